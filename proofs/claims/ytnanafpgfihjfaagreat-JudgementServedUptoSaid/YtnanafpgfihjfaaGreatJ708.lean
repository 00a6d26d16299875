/- Part of the proof that the law JudgementServed returns true and leaves its arguments as they were, for all arguments of bulk at most 1048576 (the Upto form). -/
import Derived.Test.YtnanafpgfihjfaaGreatJ707
import Derived.Sort.Statements
import Derived.Shelf.SlSortCmp.Insertion
set_option linter.all false
set_option maxHeartbeats 4000000
set_option maxRecDepth 100000
section
namespace Go.Sx
open Go.RowKit
section
universe u
variable {α:Type u}{G:List SV->α->Prop}
def apO:Option (List SV->Option α)->List SV->Option α
 |some q,r=>q r|none,_=>none
@[go_sem] theorem aeI {q:List SV->Option α}{r:List SV}:apO (some q) r=q r:=(rfl)
@[go_sem] theorem aeJ {r:List SV}:apO (α:=α) none r=none:=(rfl)
def pFn (f:Nat)(k:List SV->Option (List SV->Option α)):List SV->Option α
 | .fn g [] caps::r=>bif Nat.beq g f then apO (k caps) r else none|_=>none
def pXF (f:Nat)(k:List SV->Option (List SV->Option α)):List SV->Option α
 | .ep [.fn g [] caps] 0::r=>bif Nat.beq g f then apO (k caps) r else none|_=>none
@[go_sem] theorem ah8 {f g:Nat}{k:List SV->Option (List SV->Option α)}{caps r:List SV}:pFn f k (.fn g [] caps::r)=bif Nat.beq g f then apO (k caps) r else none:=(rfl)
@[go_sem] theorem ah9 {f g:Nat}{k:List SV->Option (List SV->Option α)}{caps r:List SV}:pXF f k (.ep [.fn g [] caps] 0::r)=bif Nat.beq g f then apO (k caps) r else none:=(rfl)
theorem BL {o:Option (List SV->Option α)}{r:List SV}{c:α}(h:apO o r=some c):∃ q,o=some q/\q r=some c:=by
 cases o with
 |none=>cases h|some q=>exact⟨q,rfl,h⟩
theorem bI {f:Nat}{k:List SV->Option (List SV->Option α)}(h:∀ caps q,k caps=some q->∀ l c,q l=some c->G (.fn f [] caps::l) c):∀ l c,pFn f k l=some c->G l c:=fun l c hc=>by
 unfold pFn at hc;split at hc
 rename_i g caps r;cases hb:Nat.beq g f with
 |false=>rw[hb]at hc;cases hc
 |true=>
  rw[hb]at hc;obtain⟨q,h1,h2⟩:=BL hc;have:=ain hb;subst this;exact h caps q h1 r c h2
 cases hc
theorem kc {f:Nat}{k:List SV->Option (List SV->Option α)}(h:∀ caps q,k caps=some q->∀ l c,q l=some c->G (.ep [.fn f [] caps] 0::l) c):∀ l c,pXF f k l=some c->G l c:=fun l c hc=>by
 unfold pXF at hc;split at hc
 rename_i g caps r;cases hb:Nat.beq g f with
 |false=>rw[hb]at hc;cases hc
 |true=>
  rw[hb]at hc;obtain⟨q,h1,h2⟩:=BL hc;have:=ain hb;subst this;exact h caps q h1 r c h2
 cases hc
def pFB (f:Nat)(k:List SV->Option (List SV->Option α)):List SV->Option α
 | .fn g caps []::r=>bif Nat.beq g f then apO (k caps) r else none|_=>none
def Nm (f:Nat)(k:List SV->Option (List SV->Option α)):List SV->Option α
 | .ep [.fn g caps []] 0::r=>bif Nat.beq g f then apO (k caps) r else none|_=>none
@[go_sem] theorem ah_ {f g:Nat}{k:List SV->Option (List SV->Option α)}{caps r:List SV}:pFB f k (.fn g caps []::r)=bif Nat.beq g f then apO (k caps) r else none:=(rfl)
@[go_sem] theorem agZ {f g:Nat}{k:List SV->Option (List SV->Option α)}{caps r:List SV}:Nm f k (.ep [.fn g caps []] 0::r)=bif Nat.beq g f then apO (k caps) r else none:=(rfl)
@[go_sem] theorem aia {f g:Nat}{k:List SV->Option (List SV->Option α)}{b c r:List SV}{x:SV}:pFB f k (.fn g b (x::c)::r)=none:=(rfl)
@[go_sem] theorem ag0 {f g:Nat}{k:List SV->Option (List SV->Option α)}{b c r:List SV}{x:SV}:Nm f k (.ep [.fn g b (x::c)] 0::r)=none:=(rfl)
@[go_sem] theorem aib {f g:Nat}{k:List SV->Option (List SV->Option α)}{b c r:List SV}{x:SV}:pFn f k (.fn g (x::b) c::r)=none:=(rfl)
@[go_sem] theorem aic {f g:Nat}{k:List SV->Option (List SV->Option α)}{b c r:List SV}{x:SV}:pXF f k (.ep [.fn g (x::b) c] 0::r)=none:=(rfl)
theorem Xi {f:Nat}{k:List SV->Option (List SV->Option α)}(h:∀ caps q,k caps=some q->∀ l c,q l=some c->G (.fn f caps []::l) c):∀ l c,pFB f k l=some c->G l c:=fun l c hc=>by
 unfold pFB at hc;split at hc
 rename_i g caps r;cases hb:Nat.beq g f with
 |false=>rw[hb]at hc;cases hc
 |true=>
  rw[hb]at hc;obtain⟨q,h1,h2⟩:=BL hc;have:=ain hb;subst this;exact h caps q h1 r c h2
 cases hc
theorem FN {f:Nat}{k:List SV->Option (List SV->Option α)}(h:∀ caps q,k caps=some q->∀ l c,q l=some c->G (.ep [.fn f caps []] 0::l) c):∀ l c,Nm f k l=some c->G l c:=fun l c hc=>by
 unfold Nm at hc;split at hc
 rename_i g caps r;cases hb:Nat.beq g f with
 |false=>rw[hb]at hc;cases hc
 |true=>
  rw[hb]at hc;obtain⟨q,h1,h2⟩:=BL hc;have:=ain hb;subst this;exact h caps q h1 r c h2
 cases hc
end
def pXX {α:Type 1}(t:Tag)(k:t.T->List SV->Option α):List SV->Option α
 | .ep [s] 0::r=>pX t k (s::r)|_=>none
@[go_sem] theorem aeK {α:Type 1}{t:Tag}{k:t.T->List SV->Option α}{s:SV}{r:List SV}:pXX t k (.ep [s] 0::r)=pX t k (s::r):=(rfl)
theorem Xj {α:Type 1}{t:Tag}{k:t.T->List SV->Option α}{l:List SV}{c:α}(h:pXX t k l=some c):∃ x r,l=.ep [.ep (cellsOf t x) 0] 0::r/\k x r=some c:=by
 unfold pXX at h;split at h
 obtain⟨x,r,e,h1⟩:=SP h;simp only[aje]at e;obtain⟨rfl,rfl⟩:=e;exact⟨x,_,rfl,h1⟩;cases h
theorem bW {α:Type 1}{G:List SV->α->Prop}{t:Tag}{k:t.T->List SV->Option α}(h:∀ n l c,k n l=some c->G (.ep [.ep (cellsOf t n) 0] 0::l) c):∀ l c,pXX t k l=some c->G l c:=fun l c hc=>by
 obtain⟨n,r,rfl,h1⟩:=Xj hc;exact h n r c h1
theorem BM {α:Type 1}{G:List SV->α->Prop}{t:Tag}{k:List t.T->List SV->Option α}(h:∀ n l c,k n l=some c->G (.ep [.rs t n] 0::l) c):∀ l c,pXR t k l=some c->G l c:=fun l c hc=>by
 obtain⟨n,r,rfl,h1⟩:=Xg hc;exact h n r c h1
theorem cl3 {p:Prop}(h:p:=by((repeat' (first|with_reducible refine And.intro ?_ ?_|((with_reducible show _≠_);first|assumption|omega|(simp_all [cy,fK];done) |grind) |with_reducible intro _)) <;>(first|done|assumption|rfl|omega|exact cl|(simp_all only[SS,SU,aiZ,Sum.inl.injEq,forall_eq',forall_const,true_imp_iff,cond_true,cond_false,and_self];done)))):p:=h
def Nn (k:Tag)(K:List k.T->Option HCon):List Ob->Option HCon
 | [.row k' l] =>if h:k'=k then K (h▸l)else none|_=>none
theorem Lh {k:Tag}{K:List k.T->Option HCon}{h:List Ob}{c:HCon}(hh:Nn k K h=some c):∃ l,h=[.row k l]/\K l=some c:=by
 unfold Nn at hh;split at hh;split at hh
 rename_i e;subst e;exact⟨_,rfl,hh⟩;cases hh;cases hh
end Go.Sx
end
section
namespace Go.Sx
open Go.Proofs
open IntKind (i64 u64)
theorem czl {p:Prop}(h:p:=by first|(simp only[*,cond_true,cond_false,aiP,aiY,go_sem,Nat.reduceBEq,Nat.reduceLeDiff,Nat.reduceLT,decide_true,Nat.reduceAdd,Nat.reduceSub,Nat.reduceMul,Int.reduceLE,Int.reduceLT,Int.reduceToNat,Int.reduceNeg,reduceCtorEq];done) |fail):p:=h
theorem ke {l0:List Nat}(a0:JL l0){p:Prop}(h:JL l0->p:=by intro ja;(first|done|(repeat' (first|with_reducible refine And.intro ?_ ?_|((with_reducible show _≠_);first|assumption|omega|(simp_all [cy,fK];done) |grind) |with_reducible intro _)) <;>(first|done|with_reducible exact Empty.elim ‹Empty› |with_reducible assumption|rfl|omega|assumption|decide|exact fk ja|exact czl|(simp only[*,cond_true,cond_false,aiP,aiY,go_sem,Nat.reduceBEq,Nat.reduceLeDiff,Nat.reduceLT,decide_true,Nat.reduceAdd,Nat.reduceSub,Nat.reduceMul,Int.reduceLE,Int.reduceLT,Int.reduceToNat,Int.reduceNeg,reduceCtorEq];(repeat' (first|with_reducible refine And.intro ?_ ?_|((with_reducible show _≠_);first|assumption|omega|(simp_all [cy,fK];done) |grind) |with_reducible intro _)) <;>(first|done|assumption|rfl|omega|decide|exact fk ja|(simp_all [cy,fK];done))) |(simp_all [okI,cy,fK];done) |(simp_all [cy,fK];(first|done|exact fk2 ja)) |exact fk2 ja))):p:=h a0
theorem bT {l0:List Nat}(a0:JL l0){p:Prop}(h:JL l0->p:=by intro ja;simp only[go_sem,Nat.reduceBEq,Nat.reduceLeDiff,Nat.reduceLT,decide_true,Nat.reduceAdd,Nat.reduceSub,Nat.reduceMul,Int.reduceLE,Int.reduceLT,Int.reduceToNat,Int.reduceNeg,reduceCtorEq,hc,hw];all_goals exact ke ja):p:=h a0
theorem bN {l0:List Nat}(a0:JL l0){p:Prop}(h:JL l0->p:=by intro ja;simp only[go_sem,Nat.reduceBEq,Nat.reduceLeDiff,Nat.reduceLT,decide_true,Nat.reduceAdd,Nat.reduceSub,Nat.reduceMul,Int.reduceLE,Int.reduceLT,Int.reduceToNat,Int.reduceNeg,reduceCtorEq,hc];all_goals exact ke ja):p:=h a0
def mK (x:Int):Bool:=false
@[go_sem] def x5:List SV->Option Con:=(pI fun x=>(pE (.det True (.v (.bool (mK x))))))
theorem zq1 {p:Prop}(h:p:=by simp only[go_sem,Nat.reduceBEq,Nat.reduceLeDiff,Nat.reduceLT,decide_true,Nat.reduceAdd,Nat.reduceSub,Nat.reduceMul,Int.reduceLE,Int.reduceLT,Int.reduceToNat,Int.reduceNeg,reduceCtorEq];all_goals exact cl):p:=h
theorem CO:FnOk Tryz.prog 145 x5:=by
 have hG:ConsOk Tryz.prog (mkG [] []):=av cg0 cg0;refine ax [.o] mixed am hG (fn:=Tryz.f145) (c:=aa Tryz.f145) kr kr kr kr (bY fun x=>(aj (fun hp=>?_)));dsimp only[aw]at hp;refine⟨nbl rfl,L0,ag _,?_⟩;unfold aa Tryz.f145;try unfold mK
 exact zq1
def bq (x:Int)(y:Int):Int:=(bif(mK x)then(bif(mK y)then 0 else(-1))else(bif(mK y)then 1 else(bif(decide (x<y))then(-1)else(bif(decide (x > y))then 1 else 0))))
@[go_sem] def fS:List SV->Option Con:=(pI fun x=>(pI fun y=>(pE (.det True (.v (.int .i64 (bq x y)))))))
theorem iC:FnOk Tryz.prog 97 fS:=by
 have hG:ConsOk Tryz.prog (mkG [(145,x5)] []):=av (cgc CO cg0) cg0;refine ax [.o] mixed am hG (fn:=Tryz.f97) (c:=aa Tryz.f97) kr kr kr kr (bY fun x=>(bY fun y=>(aj (fun hp=>?_))));dsimp only[aw]at hp;refine⟨nbl rfl,L0,ag _,?_⟩;unfold aa Tryz.f97;try unfold bq
 exact zq1
def ii (n:Int):Int:=(bif(decide (n<0))then(u64.wrap (0 - (u64.wrap n)))else(u64.wrap n))
@[go_sem] def vK:List SV->Option Con:=(pI fun n=>(pE (.det True (.v (.int .u64 (ii n))))))
theorem AU:FnOk Tryz.prog 263 vK:=by
 have hG:ConsOk Tryz.prog (mkG [] []):=av cg0 cg0;refine ax [.o] mixed am hG (fn:=Tryz.f263) (c:=aa Tryz.f263) kr kr kr kr (bY fun n=>(aj (fun hp=>?_)));dsimp only[aw]at hp;refine⟨nbl rfl,L0,ag _,?_⟩;unfold aa Tryz.f263;try unfold ii
 exact zq1
def bU (a:Ratio):Int:=(bif(((((decide (a.d<1)) ||(decide (a.d > 1073741824))) ||(decide (a.n< (-1073741824)))) ||(decide (a.n > 1073741824))) ||(((QO (Int.toNat (ii a.n)) (Int.toNat (u64.wrap a.d)):Nat):Int) !=1))then 120 else 0)
def Al (a:Ratio):Prop:=(((((decide (a.d<1)) ||(decide (a.d > 1073741824))) ||(decide (a.n< (-1073741824)))) ||(decide (a.n > 1073741824)))=false->(0<=(ii a.n)/\0<=(u64.wrap a.d)))
theorem FO (n:Int):0<=u64.wrap n:=by
 simp[IntKind.wrap,IntKind.bits,IntKind.signed];omega
theorem CP (n:Int):0<=ii n:=by
 unfold ii;cases decide (n<0) <;>exact FO _
theorem FP (a:Ratio):Al a:=fun _=>⟨CP _,FO _⟩
@[go_sem] def su:List SV->Option Con:=(pD .ratio fun a=>(pE (.det True (.v (.int .i64 (bU a))))))
theorem zq4 {p:Prop}(h:p:=by simp only[go_sem,Nat.reduceBEq,Nat.reduceLeDiff,Nat.reduceLT,decide_true,Nat.reduceAdd,Nat.reduceSub,Nat.reduceMul,Int.reduceLE,Int.reduceLT,Int.reduceToNat,Int.reduceNeg,reduceCtorEq,C83];all_goals exact cl):p:=h
theorem uC:FnOk Tryz.prog 253 su:=by
 have hG:ConsOk Tryz.prog (mkG [(262,C83),(263,vK)] []):=av (cgc aaq (cgc AU cg0)) cg0;refine ax [.o] mixed am hG (fn:=Tryz.f253) (c:=aa Tryz.f253) kr kr kr kr (a7 fun a=>(aj (fun hp=>?_)));dsimp only[aw]at hp;have hp:=FP a;unfold Al at hp;refine⟨nbl rfl,L0,ag _,?_⟩;unfold aa Tryz.f253;try unfold bU
 exact zq4
def iX (a:Ratio)(b:Ratio):Int×Int:=(bif(((bU a) !=0) ||((bU b) !=0))then(0,120)else((bq (i64.wrap (a.n*b.d)) (i64.wrap (b.n*a.d))),0))
@[go_sem] def yO:List SV->Option Con:=(pD .ratio fun a=>(pD .ratio fun b=>(pE (.det True (.tup [.v (.int .i64 ((iX a b).1)),.v (.int .i64 ((iX a b).2))])))))
theorem BN:FnOk Tryz.prog 229 yO:=by
 have hG:ConsOk Tryz.prog (mkG [(97,fS),(253,su)] []):=av (cgc iC (cgc uC cg0)) cg0;refine ax [.o,.o] mixed am hG (fn:=Tryz.f229) (c:=aa Tryz.f229) kr kr kr kr (a7 fun a=>(a7 fun b=>(aj (fun hp=>?_))));dsimp only[aw]at hp;refine⟨nbl rfl,L0,ag _,?_⟩;unfold aa Tryz.f229;try unfold iX
 exact zq1
def G1 (ok:Bool)(e:Int):Unit:=(bif(!ok)then default else())
def du (ok:Bool)(e:Int):Bool:=(bif(!ok)then false else true)
@[go_sem] def tn:List SV->Option Con:=(pB fun ok=>(pI fun e=>(pE (.may (du ok e) (.tup []) (.iface 214 (.int .i64 e))))))
theorem wX:FnOk Tryz.prog 107 tn:=by
 have hG:ConsOk Tryz.prog (mkG [] []):=av cg0 cg0;refine ax [] mixed am hG (fn:=Tryz.f107) (c:=aa Tryz.f107) kr kr kr kr (TH fun ok=>(bY fun e=>(aj (fun hp=>?_))));dsimp only[aw]at hp;refine⟨nbl rfl,L0,ag _,?_⟩;unfold aa Tryz.f107;try unfold G1
 try unfold du
 exact zq1
@[go_sem] def b_ (l_:List Int)(k_0:Nat)(s_0:Unit):Unit⊕Unit:=(bif(decide ((l_.getD (Int.toNat ((k_0:Int)+1)) 0) < (l_.getD (Int.toNat (i64.wrap (((k_0:Int)+1) - 1))) 0)))then .inl ()else .inr ())
def l7 (l_:List Int)(k_0:Nat)(s_0:Unit):Prop:=(l_.length<=aI->((0<=((k_0:Int)+1)/\((k_0:Int)+1) < (l_.length:Int))/\(0<=(i64.wrap (((k_0:Int)+1) - 1))/\(i64.wrap (((k_0:Int)+1) - 1)) < (l_.length:Int))))
def aM (l_:List Int):Bool:=(match aq (b_ l_) (l_.length - 1) 0 ()with| .inl x_0_0=>false| .inr s_0=>true)
def x6 (l_:List Int):Prop:=okI (b_ l_) (l7 l_) (l_.length - 1) 0 ()
theorem CQ (l_:List Int):x6 l_:=kU _ _ _ fun j s h1 h2 hm=>by
 unfold aI at hm;rw[cI (by omega) (by omega)];omega
@[go_sem] def pK:List SV->Option Con:=(pR .int fun l_=>(pE (.det True (.v (.bool (aM l_))))))
theorem zq7 {p:Prop}(h:p:=by simp only[go_sem,Nat.reduceBEq,Nat.reduceLeDiff,Nat.reduceLT,decide_true,Nat.reduceAdd,Nat.reduceSub,Nat.reduceMul,Int.reduceLE,Int.reduceLT,Int.reduceToNat,Int.reduceNeg,reduceCtorEq,hb0]):p:=h
theorem zq8 {p:Prop}(h:p:=by simp only[go_sem,Nat.reduceBEq,Nat.reduceLeDiff,Nat.reduceLT,decide_true,Nat.reduceAdd,Nat.reduceSub,Nat.reduceMul,Int.reduceLE,Int.reduceLT,Int.reduceToNat,Int.reduceNeg,reduceCtorEq,b_,hc0,hw0];all_goals exact cl):p:=h
theorem zq9 {p:Prop}(h:p:=by simp only[go_sem,Nat.reduceBEq,Nat.reduceLeDiff,Nat.reduceLT,decide_true,Nat.reduceAdd,Nat.reduceSub,Nat.reduceMul,Int.reduceLE,Int.reduceLT,Int.reduceToNat,Int.reduceNeg,reduceCtorEq,hc0];all_goals exact cl2):p:=h
theorem rU:FnOk Tryz.prog 148 pK:=by
 have hG:ConsOk Tryz.prog (mkG [] []):=av cg0 cg0;refine ax [.o] mixed am hG (fn:=Tryz.f148) (c:=aa Tryz.f148) kr kr kr kr (bB fun l_=>(aj (fun hp=>?_)));dsimp only[aw]at hp;have hp:=CQ l_;unfold x6 at hp;refine⟨nbl rfl,(fun id st=>bif Nat.beq id 0 then some (LC (ρ:=Unit) (σ:=Unit) (lk 0 st.t=.rs .int l_/\lk 3 st.t=.v (.int .i64 1)/\st.h=[]/\okI (b_ l_) (l7 l_) (l_.length - 1) 0 ()) (aq (b_ l_) (l_.length - 1) 0 ()) (fun _=>.ret) (fun x_0_0=>⟨[(2,.v (.bool false))],[]⟩) (fun s_0=>⟨[],[]⟩))else none),?_,?_⟩
 ·unfold aa Tryz.f148;simp only[ap,true_and,and_true]
  ·refine HX mixed am hG kr fun st lc hC hp=>?_;simp only[go_sem,Nat.reduceBEq,aip]at hC;subst hC;obtain⟨t,h⟩:=st;dsimp only[LC]at hp;obtain⟨e0_0,e0_1,rfl,hok0⟩:=hp;refine⟨_,_,_,(b_ l_),(l7 l_),(l_.length - 1),(),_,_,_,(fun k_0 s_0=>⟨[(0,.rs .int l_),(3,.v (.int .i64 ((k_0:Int)+1)))],[]⟩),[],rfl,hok0,aio _,?_,fun k_0 s_0 hk0 hp0=>?_⟩
   ·simp only[go_sem,Nat.reduceBEq,Nat.reduceLeDiff,Nat.reduceLT,decide_true,Nat.reduceAdd,Nat.reduceSub,Nat.reduceMul,Int.reduceLE,Int.reduceLT,Int.reduceToNat,Int.reduceNeg,reduceCtorEq,e0_0,e0_1];all_goals (first|done|decide|(repeat' (first|refine And.intro ?_ ?_|rfl|decide)))
   refine⟨L0,?_,?_⟩;simp only[ap,and_self,true_and,and_true]
   ·by_cases hb0:l_.length<=aI
    rotate_left
    exact zq7;by_cases hlt0:k_0< (l_.length - 1)
    have hw0:i64.wrap (((k_0:Nat):Int)+1+1)=((k_0+1:Nat):Int)+1:=by(have hbb:=hb0;have hll:=hlt0;try unfold aI at hbb);rw[cI (by omega) (by omega)];omega
    have hq0:=hp0 hlt0;unfold l7 at hq0
    replace hq0:=hq0 hb0
    try simp only[hw0,air]at hq0
    have hc0:decide (((k_0:Int)+1) < (l_.length:Int))=true:=by simp only[decide_eq_true_eq];omega
    exact zq8;have hc0:decide (((k_0:Int)+1) < (l_.length:Int))=false:=by simp only[decide_eq_false_iff_not];omega
    exact zq9
 unfold aa Tryz.f148;try unfold aM
 exact zq1
def eA (i:Int)(n:Int):Bool:=((decide (i>=0))&&(decide (i<n)))
@[go_sem] def qJ:List SV->Option Con:=(pI fun i=>(pI fun n=>(pE (.det True (.v (.bool (eA i n)))))))
theorem tp:FnOk Tryz.prog 150 qJ:=by
 have hG:ConsOk Tryz.prog (mkG [] []):=av cg0 cg0;refine ax [.o] mixed am hG (fn:=Tryz.f150) (c:=aa Tryz.f150) kr kr kr kr (bY fun i=>(bY fun n=>(aj (fun hp=>?_))));dsimp only[aw]at hp;refine⟨nbl rfl,L0,ag _,?_⟩;unfold aa Tryz.f150;try unfold eA
 exact zq1
def kf (x:Ratio×Ratio):Bool:=(((((iX x.1 x.2).2==0)&&(decide (x.1.n>=0)))&&(decide ((iX x.1 x.2).1<=0)))&&(decide (x.2.n<=x.2.d)))
@[go_sem] def yP:List SV->Option Con:=(pD .ratio2 fun x=>(pE (.det True (.v (.bool (kf x))))))
theorem DS:FnOk Tryz.prog 201 yP:=by
 have hG:ConsOk Tryz.prog (mkG [(229,yO)] []):=av (cgc BN cg0) cg0;refine ax [.o] mixed am hG (fn:=Tryz.f201) (c:=aa Tryz.f201) kr kr kr kr (a7 fun x=>(aj (fun hp=>?_)));dsimp only[aw]at hp;refine⟨nbl rfl,L0,ag _,?_⟩;unfold aa Tryz.f201;try unfold kf
 exact zq1
def cg (i:Int)(x:Reach):Bool:=letI q0:=aM ([0,x.evap.lo,x.evap.hi,1073741824]);letI q1:=aM ([0,x.siphon,x.bank,1099511627776]);letI q2:=aM ([0,x.siphon,x.cap,1073741824]);letI q3:=aM ([1,x.delay,16]);letI q4:=kf x.seep;(bif(decide (i > 0))then((((((eA x.up i)&&q3)&&q2)&&q1)&&q0)&&q4)else((((((x.up==(-1))&&q3)&&q2)&&q1)&&q0)&&q4))
@[go_sem] def yQ:List SV->Option Con:=(pI fun i=>(pD .reach fun x=>(pE (.det True (.v (.bool (cg i x)))))))
theorem DT:FnOk Tryz.prog 149 yQ:=by
 have hG:ConsOk Tryz.prog (mkG [(148,fun l=>pK (bD [.sl .int] l)),(150,qJ),(201,yP)] []):=av (cgc (rU.norm [.sl .int]) (cgc tp (cgc DS cg0))) cg0;refine ax [.o] mixed am hG (fn:=Tryz.f149) (c:=aa Tryz.f149) kr kr kr kr (bY fun i=>(a7 fun x=>(aj (fun hp=>?_))));dsimp only[aw]at hp;refine⟨nbl rfl,L0,ag _,?_⟩;unfold aa Tryz.f149;try unfold cg
 exact zq1
def qK (a0:District)(a1:Right):Bool:=letI q0:=(a1.every==0)&&(a1.length==0);letI q1:=i64.wrap (a0.hours - 1);letI q2:=a1.reach==a1.reach;letI q3:=a1.name==a1.name;letI q4:=a1.kind==a1.kind;letI q5:=a1.farm==a1.farm;(bif(((!(eA a1.farm (a0.farms.length:Int))) ||(!(eA a1.reach (a0.reaches.length:Int)))) ||(!(aM ([0,a1.since,a1.to,q1]))))then false else(bif(a1.kind==1)then((((a1.reach==0)&&(aM ([0,a1.rank,1048576])))&&(aM ([1,a1.litres,1073741824])))&&(aM ([1,a1.length,a1.every,a0.hours])))else(bif(a1.kind==2)then(q3&&(q4&&(q5&&(q2&&((a1.rank==0)&&((a1.litres==0)&&((a1.since==0)&&((a1.to==q1)&&q0))))))))else(bif(a1.kind==3)then(q3&&(q4&&(q5&&(q2&&((a1.rank==0)&&((a1.litres==0)&&((a1.since==a1.since)&&((a1.to==a1.to)&&q0))))))))else false))))
@[go_sem] def yR:List SV->Option Con:=(pD .district fun a0=>(pD .right fun a1=>(pE (.det True (.v (.bool (qK a0 a1)))))))
theorem DU:FnOk Tryz.prog 151 yR:=by
 have hG:ConsOk Tryz.prog (mkG [(148,fun l=>pK (bD [.sl .int] l)),(150,qJ)] []):=av (cgc (rU.norm [.sl .int]) (cgc tp cg0)) cg0;refine ax [.o] mixed am hG (fn:=Tryz.f151) (c:=aa Tryz.f151) kr kr kr kr (a7 fun a0=>(a7 fun a1=>(aj (fun hp=>?_))));dsimp only[aw]at hp;refine⟨nbl rfl,L0,ag _,?_⟩;unfold aa Tryz.f151;try unfold qK
 exact zq1
@[go_sem] def d5 (a0:District)(a1:Int)(k_0:Nat)(s_0:Unit):Unit⊕Unit:=(bif(du (cg (k_0:Int) (a0.reaches.getD k_0 default)) a1)then .inr ()else .inl ())
@[go_sem] def fl (a0:District)(a1:Int)(k_1:Nat)(s_1:Unit):Unit⊕Unit:=(bif(du (aM ([0,(a0.crops.getD k_1 default).need,1048576])) a1)then .inr ()else .inl ())
@[go_sem] def d6 (a0:District)(a1:Int)(k_2:Nat)(s_2:Unit):Unit⊕Unit:=letI q0:=a0.farms.getD k_2 default;letI q1:=eA (q0.reach) (a0.reaches.length:Int);letI q2:=aM ([0,q0.area,1048576]);(bif(decide (q0.area > 0))then(bif(du (((eA (q0.crop) (a0.crops.length:Int))&&q1)&&q2) a1)then .inr ()else .inl ())else(bif(du (((q0.crop==(-1))&&q1)&&q2) a1)then .inr ()else .inl ()))
@[go_sem] def fT (a0:District)(a1:Int)(k_3:Nat)(s_3:Unit):Unit⊕Unit:=(bif(du (qK a0 (a0.rights.getD k_3 default)) a1)then .inr ()else .inl ())
@[go_sem] def fU (a0:District)(a1:Int)(k_4:Nat)(s_4:Unit):Unit⊕Unit:=letI q0:=a0.duties.getD k_4 default;(bif(du (((eA (q0.farm) (a0.farms.length:Int))&&(eA (q0.reach) (a0.reaches.length:Int)))&&(aM ([0,q0.due,a0.hours]))) a1)then .inr ()else .inl ())
def FQ (a0:District)(a1:Int):Unit:=(bif(du (((aM ([1,a0.hours,4096]))&&(aM ([0,a0.tank.start,a0.tank.cap,1099511627776])))&&(decide ((a0.reaches.length:Int) > 0))) a1)then(match aq (d5 a0 a1) a0.reaches.length 0 ()with| .inl x_0_0=>default| .inr s_0=>(match aq (fl a0 a1) a0.crops.length 0 ()with| .inl x_1_0=>default| .inr s_1=>(match aq (d6 a0 a1) a0.farms.length 0 ()with| .inl x_2_0=>default| .inr s_2=>(match aq (fT a0 a1) a0.rights.length 0 ()with| .inl x_3_0=>default| .inr s_3=>(match aq (fU a0 a1) a0.duties.length 0 ()with| .inl x_4_0=>default| .inr s_4=>())))))else default)
def gY (a0:District)(a1:Int):Bool:=(bif(du (((aM ([1,a0.hours,4096]))&&(aM ([0,a0.tank.start,a0.tank.cap,1099511627776])))&&(decide ((a0.reaches.length:Int) > 0))) a1)then(match aq (d5 a0 a1) a0.reaches.length 0 ()with| .inl x_0_0=>false| .inr s_0=>(match aq (fl a0 a1) a0.crops.length 0 ()with| .inl x_1_0=>false| .inr s_1=>(match aq (d6 a0 a1) a0.farms.length 0 ()with| .inl x_2_0=>false| .inr s_2=>(match aq (fT a0 a1) a0.rights.length 0 ()with| .inl x_3_0=>false| .inr s_3=>(match aq (fU a0 a1) a0.duties.length 0 ()with| .inl x_4_0=>false| .inr s_4=>true)))))else false)
@[go_sem] def wY:List SV->Option Con:=(pD .district fun a0=>(pI fun a1=>(pE (.may (gY a0 a1) (.tup []) (.iface 214 (.int .i64 a1))))))
theorem BO:FnOk Tryz.prog 108 wY:=by
 have hG:ConsOk Tryz.prog (mkG [(107,tn),(148,fun l=>pK (bD [.sl .int] l)),(149,yQ),(150,qJ),(151,fun l=>yR (bD [.st .district,.st .right] l))] []):=av (cgc wX (cgc (rU.norm [.sl .int]) (cgc DT (cgc tp (cgc (DU.norm [.st .district,.st .right]) cg0))))) cg0;refine ax [] mixed am hG (fn:=Tryz.f108) (c:=aa Tryz.f108) kr kr kr kr (a7 fun a0=>(bY fun a1=>(aj (fun hp=>?_))));dsimp only[aw]at hp;refine⟨nbl rfl,(fun id st=>bif Nat.beq id 0 then some (LCR (ρ:=Unit) (σ:=Unit) 1 [] [0] (fun k_0 s_0=>⟨[(1,.v (.int .i64 a1)),(2,.ptr 0 0),(38,.rs .reach a0.reaches),(39,.v (.int .i64 (a0.reaches.length:Int))),(40,.v (.int .i64 (k_0:Int)))],[.cells (cellsOf .district a0)]⟩) (d5 a0 a1) pT a0.reaches.length () (a0.reaches.length<=aI) (fun _=>.pan (.iface 214 (.int .i64 a1))) (fun x_0_0=>⟨[],[.dead]⟩) st)else bif Nat.beq id 2 then some (LCR (ρ:=Unit) (σ:=Unit) 1 [] [0] (fun k_1 s_1=>⟨[(1,.v (.int .i64 a1)),(2,.ptr 0 0),(52,.rs .crop a0.crops),(53,.v (.int .i64 (a0.crops.length:Int))),(54,.v (.int .i64 (k_1:Int)))],[.cells (cellsOf .district a0)]⟩) (fl a0 a1) pT a0.crops.length () (a0.crops.length<=aI) (fun _=>.pan (.iface 214 (.int .i64 a1))) (fun x_1_0=>⟨[],[.dead]⟩) st)else bif Nat.beq id 4 then some (LCR (ρ:=Unit) (σ:=Unit) 1 [] [0] (fun k_2 s_2=>⟨[(1,.v (.int .i64 a1)),(2,.ptr 0 0),(66,.rs .farm a0.farms),(67,.v (.int .i64 (a0.farms.length:Int))),(68,.v (.int .i64 (k_2:Int)))],[.cells (cellsOf .district a0)]⟩) (d6 a0 a1) pT a0.farms.length () (a0.farms.length<=aI) (fun _=>.pan (.iface 214 (.int .i64 a1))) (fun x_2_0=>⟨[],[.dead]⟩) st)else bif Nat.beq id 6 then some (LCR (ρ:=Unit) (σ:=Unit) 1 [] [0] (fun k_3 s_3=>⟨[(1,.v (.int .i64 a1)),(2,.ptr 0 0),(103,.rs .right a0.rights),(104,.v (.int .i64 (a0.rights.length:Int))),(105,.v (.int .i64 (k_3:Int)))],[.cells (cellsOf .district a0)]⟩) (fT a0 a1) pT a0.rights.length () (a0.rights.length<=aI) (fun _=>.pan (.iface 214 (.int .i64 a1))) (fun x_3_0=>⟨[],[.dead]⟩) st)else bif Nat.beq id 8 then some (LCR (ρ:=Unit) (σ:=Unit) 1 [] [0] (fun k_4 s_4=>⟨[(1,.v (.int .i64 a1)),(2,.ptr 0 0),(116,.rs .duty a0.duties),(117,.v (.int .i64 (a0.duties.length:Int))),(118,.v (.int .i64 (k_4:Int)))],[.cells (cellsOf .district a0)]⟩) (fU a0 a1) pT a0.duties.length () (a0.duties.length<=aI) (fun _=>.pan (.iface 214 (.int .i64 a1))) (fun x_4_0=>⟨[],[.dead]⟩) st)else none),?_,?_⟩;unfold aa Tryz.f108;simp only[ap,true_and,and_true];refine⟨?_,?_,?_,?_,?_⟩;refine a8 mixed am hG kr (fun _=>rfl) (a0.reaches.length:Int) rfl iB (fun hb0 k_0 s_0 hlt0 _ hw hc=>⟨L0,ag _,?_⟩) (fun hb0 s_0 hc=>?_);exact bT (jl [0]);exact bN (jl [0]);refine a8 mixed am hG kr (fun _=>rfl) (a0.crops.length:Int) rfl iB (fun hb1 k_1 s_1 hlt1 _ hw hc=>⟨L0,ag _,?_⟩) (fun hb1 s_1 hc=>?_);exact bT (jl [0]);exact bN (jl [0]);refine a8 mixed am hG kr (fun _=>rfl) (a0.farms.length:Int) rfl iB (fun hb2 k_2 s_2 hlt2 _ hw hc=>⟨L0,ag _,?_⟩) (fun hb2 s_2 hc=>?_);exact bT (jl [0]);exact bN (jl [0]);refine a8 mixed am hG kr (fun _=>rfl) (a0.rights.length:Int) rfl iB (fun hb3 k_3 s_3 hlt3 _ hw hc=>⟨L0,ag _,?_⟩) (fun hb3 s_3 hc=>?_);exact bT (jl [0]);exact bN (jl [0]);refine a8 mixed am hG kr (fun _=>rfl) (a0.duties.length:Int) rfl iB (fun hb4 k_4 s_4 hlt4 _ hw hc=>⟨L0,ag _,?_⟩) (fun hb4 s_4 hc=>?_);exact bT (jl [0]);exact bN (jl [0]);unfold aa Tryz.f108;try unfold FQ
 try unfold gY
 exact zq1
def aU (d:District):Int:=(bif(du (((((decide ((d.reaches.length:Int)<=64))&&(decide ((d.farms.length:Int)<=600)))&&(decide ((d.crops.length:Int)<=32)))&&(decide ((d.rights.length:Int)<=256)))&&(decide ((d.duties.length:Int)<=256))) 2)then(bif(gY d 191)then 0 else 191)else 2)
@[go_sem] def qL:List SV->Option Con:=(pD .district fun d=>(pE (.det True (.v (.int .i64 (aU d))))))
theorem zq16 {p:Prop}(h:p:=by simp only[go_sem,Nat.reduceBEq,Nat.reduceLeDiff,Nat.reduceLT,decide_true,Nat.reduceAdd,Nat.reduceSub,Nat.reduceMul,Int.reduceLE,Int.reduceLT,Int.reduceToNat,Int.reduceNeg,reduceCtorEq,rT,pY,aan];all_goals exact cl):p:=h
theorem tq:FnOk Tryz.prog 57 qL:=by
 have hG:ConsOk Tryz.prog (mkG [(107,tn),(108,fun l=>wY (bD [.st .district,.o] l))] []):=av (cgc wX (cgc (BO.norm [.st .district,.o]) cg0)) cg0;refine aaj Tw [.o] mixed am hG (fn:=Tryz.f57) (c0:=rT (aa Tryz.f57)) (c1:=pY (pY (aa Tryz.f57))) (i1:=Wp (rT (pY (aa Tryz.f57)))) (o1:=SY 0 (rT (pY (aa Tryz.f57)))) (o2:=SY 1 (rT (pY (aa Tryz.f57)))) (t3:=3) (q:=2) (tys:= #[]) kr kr kr (by refine⟨?_,?_,?_⟩ <;>kernel_rfl) (by refine⟨?_,?_,?_⟩ <;>kernel_rfl) (nbl rfl) kr kr (a7 fun d=>(aj (fun hp=>?_)));dsimp only[aw]at hp;refine⟨nbl rfl,L0,L0,1,?_,?_,?_⟩;unfold aa Tryz.f57;simp only[rT,ap,and_self,true_and,and_true];unfold aa Tryz.f57;simp only[pY];simp only[ap,and_self,true_and,and_true];unfold aa Tryz.f57;try unfold aU
 exact zq16
def qM (x:Order):Int:=x.hour
@[go_sem] def o8:List SV->Option Con:=(pD .order fun x=>(pE (.det True (.v (.int .i64 (qM x))))))
theorem yS:FnOk Tryz.prog 217 o8:=by
 have hG:ConsOk Tryz.prog (mkG [] []):=av cg0 cg0;refine ax [.o] mixed am hG (fn:=Tryz.f217) (c:=aa Tryz.f217) kr kr kr kr (a7 fun x=>(aj (fun hp=>?_)));dsimp only[aw]at hp;refine⟨nbl rfl,L0,ag _,?_⟩;unfold aa Tryz.f217;try unfold qM
 exact zq1
def uD (x:Order):Int:=(bif x.outlet then 1 else 0)
@[go_sem] def rV:List SV->Option Con:=(pD .order fun x=>(pE (.det True (.v (.int .i64 (uD x))))))
theorem BP:FnOk Tryz.prog 218 rV:=by
 have hG:ConsOk Tryz.prog (mkG [] []):=av cg0 cg0;refine ax [.o] mixed am hG (fn:=Tryz.f218) (c:=aa Tryz.f218) kr kr kr kr (a7 fun x=>(aj (fun hp=>?_)));dsimp only[aw]at hp;refine⟨nbl rfl,L0,ag _,?_⟩;unfold aa Tryz.f218;try unfold uD
 exact zq1
def qN (x:Order):Int:=x.index
@[go_sem] def o9:List SV->Option Con:=(pD .order fun x=>(pE (.det True (.v (.int .i64 (qN x))))))
theorem yT:FnOk Tryz.prog 219 o9:=by
 have hG:ConsOk Tryz.prog (mkG [] []):=av cg0 cg0;refine ax [.o] mixed am hG (fn:=Tryz.f219) (c:=aa Tryz.f219) kr kr kr kr (a7 fun x=>(aj (fun hp=>?_)));dsimp only[aw]at hp;refine⟨nbl rfl,L0,ag _,?_⟩;unfold aa Tryz.f219;try unfold qN
 exact zq1
theorem nS {l0:List Nat}(a0:JL l0){p:Prop}(h:JL l0->p:=by intro ja;simp only[go_sem,Nat.reduceBEq,Nat.reduceLeDiff,Nat.reduceLT,decide_true,Nat.reduceAdd,Nat.reduceSub,Nat.reduceMul,Int.reduceLE,Int.reduceLT,Int.reduceToNat,Int.reduceNeg,reduceCtorEq];all_goals exact ke ja):p:=h a0
def qO (x:Range)(most:Int):Bool:=(((decide (x.lo>=0))&&(decide (x.lo<=x.hi)))&&(decide (x.hi<=most)))
@[go_sem] def wZ:List SV->Option Con:=(pD .range fun x=>(pI fun most=>(pE (.det True (.v (.bool (qO x most)))))))
theorem BQ:FnOk Tryz.prog 246 wZ:=by
 have hG:ConsOk Tryz.prog (mkG [] []):=av cg0 cg0;refine ax [.o] mixed am hG (fn:=Tryz.f246) (c:=aa Tryz.f246) kr kr kr kr (a7 fun x=>(bY fun most=>(aj (fun hp=>?_))));dsimp only[aw]at hp;refine⟨nbl rfl,L0,ag _,?_⟩;unfold aa Tryz.f246;try unfold qO
 exact zq1
def ue (n:Int)(lo:Int)(hi:Int):Bool:=((decide (n>=lo))&&(decide (n<=hi)))
@[go_sem] def yU:List SV->Option Con:=(pI fun n=>(pI fun lo=>(pI fun hi=>(pE (.det True (.v (.bool (ue n lo hi))))))))
theorem BR:FnOk Tryz.prog 248 yU:=by
 have hG:ConsOk Tryz.prog (mkG [] []):=av cg0 cg0;refine ax [.o] mixed am hG (fn:=Tryz.f248) (c:=aa Tryz.f248) kr kr kr kr (bY fun n=>(bY fun lo=>(bY fun hi=>(aj (fun hp=>?_)))));dsimp only[aw]at hp;refine⟨nbl rfl,L0,ag _,?_⟩;unfold aa Tryz.f248;try unfold ue
 exact zq1
def qP (a:Ratio):Bool:=(((bU a) ==0)&&(ue a.n 0 a.d))
@[go_sem] def yV:List SV->Option Con:=(pD .ratio fun a=>(pE (.det True (.v (.bool (qP a))))))
theorem DV:FnOk Tryz.prog 260 yV:=by
 have hG:ConsOk Tryz.prog (mkG [(248,yU),(253,su)] []):=av (cgc BR (cgc uC cg0)) cg0;refine ax [.o] mixed am hG (fn:=Tryz.f260) (c:=aa Tryz.f260) kr kr kr kr (a7 fun a=>(aj (fun hp=>?_)));dsimp only[aw]at hp;refine⟨nbl rfl,L0,ag _,?_⟩;unfold aa Tryz.f260;try unfold qP
 exact zq1
def pu (a:Ratio×Ratio):Bool:=(bif((!(qP a.1)) ||(!(qP a.2)))then false else(((iX a.1 a.2).2==0)&&(decide ((iX a.1 a.2).1<=0))))
@[go_sem] def x7:List SV->Option Con:=(pD .ratio2 fun a=>(pE (.det True (.v (.bool (pu a))))))
theorem CR:FnOk Tryz.prog 247 x7:=by
 have hG:ConsOk Tryz.prog (mkG [(229,yO),(260,yV)] []):=av (cgc BN (cgc DV cg0)) cg0;refine ax [.o] mixed am hG (fn:=Tryz.f247) (c:=aa Tryz.f247) kr kr kr kr (a7 fun a=>(aj (fun hp=>?_)));dsimp only[aw]at hp;refine⟨nbl rfl,L0,ag _,?_⟩;unfold aa Tryz.f247;try unfold pu
 exact zq1
def iF (r:Reach)(n:Int):Int:=(bif((!(qO r.evap 1073741824)) ||(!(pu r.seep)))then 210 else(bif(!(ue n 0 1073741824))then 1 else 0))
@[go_sem] def yW:List SV->Option Con:=(pD .reach fun r=>(pI fun n=>(pE (.det True (.v (.int .i64 (iF r n)))))))
theorem DW:FnOk Tryz.prog 220 yW:=by
 have hG:ConsOk Tryz.prog (mkG [(246,wZ),(247,x7),(248,yU)] []):=av (cgc BQ (cgc CR (cgc BR cg0))) cg0;refine ax [.o] mixed am hG (fn:=Tryz.f220) (c:=aa Tryz.f220) kr kr kr kr (a7 fun r=>(bY fun n=>(aj (fun hp=>?_))));dsimp only[aw]at hp;refine⟨nbl rfl,L0,ag _,?_⟩;unfold aa Tryz.f220;try unfold iF
 exact zq1
def rW (n:Int)(d:Int):Int:=(i64.wrap (Int.tdiv (i64.wrap (n - (Int.tmod (i64.wrap ((Int.tmod n d)+d)) d))) d))
def tX (n:Int)(d:Int):Prop:=(d≠0/\(d≠0/\d≠0))
@[go_sem] def BS:List SV->Option Con:=(pI fun n=>(pI fun d=>(pE (.det (tX n d) (.v (.int .i64 (rW n d)))))))
theorem G3:FnOk Tryz.prog 261 BS:=by
 have hG:ConsOk Tryz.prog (mkG [] []):=av cg0 cg0;refine ax [.o] mixed am hG (fn:=Tryz.f261) (c:=aa Tryz.f261) kr kr kr kr (bY fun n=>(bY fun d=>(aj (fun hp=>?_))));dsimp only[aw]at hp;unfold tX at hp;refine⟨nbl rfl,L0,ag _,?_⟩;unfold aa Tryz.f261;try unfold rW
 exact zq1
def kh (a:Ratio)(n:Int):Int×Int×Int:=(bif((bU a) !=0)then(0,0,(bU a))else(bif((decide (n< (-1073741824))) ||(decide (n > 1073741824)))then(0,0,1)else((rW (i64.wrap (a.n*n)) a.d),(i64.wrap (0 - (rW (i64.wrap ((i64.wrap (0 - a.n))*n)) a.d))),0)))
def Am (a:Ratio)(n:Int):Prop:=(((bU a) !=0)=false->(((decide (n< (-1073741824))) ||(decide (n > 1073741824)))=false->((tX (i64.wrap (a.n*n)) a.d)/\(tX (i64.wrap ((i64.wrap (0 - a.n))*n)) a.d))))
theorem G4 {a:Ratio}(h:(bU a !=0)=false):1<=a.d:=by
 unfold bU at h;by_cases hd:a.d<1
 simp[hd]at h;omega
theorem FR (a:Ratio)(n:Int):Am a n:=fun h _=>by
 have:=G4 h;exact⟨⟨by omega,by omega,by omega⟩,⟨by omega,by omega,by omega⟩⟩
@[go_sem] def An:List SV->Option Con:=(pD .ratio fun a=>(pI fun n=>(pE (.det True (.tup [.v (.int .i64 ((kh a n).1)),.v (.int .i64 ((kh a n).2.1)),.v (.int .i64 ((kh a n).2.2))])))))
theorem FT:FnOk Tryz.prog 251 An:=by
 have hG:ConsOk Tryz.prog (mkG [(253,su),(261,BS)] []):=av (cgc uC (cgc G3 cg0)) cg0;refine ax [.o,.o,.o] mixed am hG (fn:=Tryz.f251) (c:=aa Tryz.f251) kr kr kr kr (a7 fun a=>(bY fun n=>(aj (fun hp=>?_))));dsimp only[aw]at hp;have hp:=FR a n;unfold Am at hp;refine⟨nbl rfl,L0,ag _,?_⟩;unfold aa Tryz.f251;try unfold kh
 exact zq1
def iJ (r:Reach)(v:Int):Range:=letI q0:=i64.wrap (r.evap.hi+(kh r.seep.2 v).2.1);letI q1:=i64.wrap (r.evap.lo+(kh r.seep.1 v).1);(bif(v==0)then({ lo:=0,hi:=0}:Range)else({ lo:=(if q1<v then q1 else v),hi:=(if q0<v then q0 else v)}:Range))
@[go_sem] def Ao:List SV->Option Con:=(pD .reach fun r=>(pI fun v=>(pE (.det True (.agg (cellsOf .range (iJ r v)))))))
theorem FU:FnOk Tryz.prog 223 Ao:=by
 have hG:ConsOk Tryz.prog (mkG [(251,An)] []):=av (cgc FT cg0) cg0;refine ax [.st .range] mixed am hG (fn:=Tryz.f223) (c:=aa Tryz.f223) kr kr kr kr (a7 fun r=>(bY fun v=>(aj (fun hp=>?_))));dsimp only[aw]at hp;refine⟨nbl rfl,L0,ag _,?_⟩;unfold aa Tryz.f223;try unfold iJ
 exact zq1
def sw (v:Int)(r:Reach):Int:=(i64.wrap (v - (iJ r v).hi))
@[go_sem] def x8:List SV->Option Con:=(pI fun v=>(pX .reach fun r=>(pE (.det True (.v (.int .i64 (sw v r)))))))
theorem CS:FnOk Tryz.prog 222 x8:=by
 have hG:ConsOk Tryz.prog (mkG [(223,Ao)] []):=av (cgc FU cg0) cg0;refine ax [.o] mixed am hG (fn:=Tryz.f222) (c:=aa Tryz.f222) kr kr kr kr (bY fun v=>(aP fun r=>(aj (fun hp=>?_))));dsimp only[aw]at hp;refine⟨nbl rfl,L0,ag _,?_⟩;unfold aa Tryz.f222;try unfold sw
 exact zq1
def f7 (v:Int)(r:Reach)(w:Int):Bool:=(decide ((sw v r) > w))
@[go_sem] def w5:List SV->Option Con:=(pI fun v=>(pXF 222 (pX .reach fun r=>(pE ((pX .int fun w=>(pE (.det True (.v (.bool (f7 v r w)))))))))))
theorem BT:FnOk Tryz.prog 250 w5:=by
 have hG:ConsOk Tryz.prog (mkG [(222,x8)] []):=av (cgc CS cg0) cg0;refine ax [.o] mixed am hG (fn:=Tryz.f250) (c:=aa Tryz.f250) kr kr kr kr (bY fun v=>(kc (aP fun r=>(aj ((aP fun w=>(aj (fun hp=>?_))))))));dsimp only[aw]at hp;refine⟨nbl rfl,L0,ag _,?_⟩;unfold aa Tryz.f250;try unfold f7
 exact zq1
@[go_sem] def lg (r:Reach)(w:Int)(k_0:Nat)(s_0:Int×Int):Int⊕(Int×Int):=letI q0:=i64.wrap (RD .u64 (u64.wrap (i64.wrap (s_0.1+s_0.2))) 1);(bif(decide (s_0.1<s_0.2))then(bif(!(f7 q0 r w))then .inr ((i64.wrap (q0+1)),s_0.2)else .inr (s_0.1,q0))else .inl s_0.1)
def vL (n:Int)(r:Reach)(w:Int):Int:=(match aq (lg r w) 64 0 (0,n)with| .inl x_0_0=>x_0_0| .inr s_0=>default)
def sA (n:Int)(r:Reach)(w:Int):Prop:=(∀ z_,aq (lg r w) 64 0 (0,n)≠ .inr z_)
@[go_sem] def Ap:List SV->Option Con:=(pI fun n=>(pFn 250 (pXF 222 (pX .reach fun r=>(pE ((pX .int fun w=>(pE ((pE (.det (sA n r w) (.v (.int .i64 (vL n r w))))))))))))))
theorem FV:FnOk Tryz.prog 249 Ap:=by
 have hG:ConsOk Tryz.prog (mkG [(250,w5)] []):=av (cgc BT cg0) cg0;refine ax [.o] mixed am hG (fn:=Tryz.f249) (c:=aa Tryz.f249) kr kr kr kr (bY fun n=>(bI (kc (aP fun r=>(aj ((aP fun w=>(aj ((aj (fun hp=>?_)))))))))));dsimp only[aw]at hp;unfold sA at hp;refine⟨nbl rfl,(fun id st=>bif Nat.beq id 0 then some (LCV (ρ:=Int) (σ:=(Int×Int)) 0 [] [] (fun k_0 s_0=>⟨[(1,.fn 250 [] [.ep [.fn 222 [] [.ep (cellsOf .reach r) 0]] 0,.ep [.v (.int .i64 w)] 0]),(5,.v (.int .i64 s_0.1)),(6,.v (.int .i64 s_0.2))],[]⟩) (lg r w) pT 64 (0,n) (fun _=>.normal) (fun x_0_0=>⟨[(5,.v (.int .i64 x_0_0))],[]⟩) st)else none),?_,?_⟩;unfold aa Tryz.f249;simp only[ap,true_and,and_true];refine uB mixed am hG kr (fun _=>rfl) fun k_0 s_0 _=>⟨L0,ag _,?_⟩;exact nS (jl []);unfold aa Tryz.f249;try unfold vL
 exact zq1
def gh (w:Int)(r:Reach):Int:=(vL 1073741825 r w)
def uE (w:Int)(r:Reach):Prop:=(sA 1073741825 r w)
@[go_sem] def yX:List SV->Option Con:=(pI fun w=>(pFn 222 (pX .reach fun r=>(pE ((pE (.det (uE w r) (.v (.int .i64 (gh w r))))))))))
theorem DX:FnOk Tryz.prog 221 yX:=by
 have hG:ConsOk Tryz.prog (mkG [(249,Ap)] []):=av (cgc FV cg0) cg0;refine ax [.o] mixed am hG (fn:=Tryz.f221) (c:=aa Tryz.f221) kr kr kr kr (bY fun w=>(bI (aP fun r=>(aj ((aj (fun hp=>?_)))))));dsimp only[aw]at hp;unfold uE at hp;refine⟨nbl rfl,L0,ag _,?_⟩;unfold aa Tryz.f221;try unfold gh
 exact zq1
def iK (r:Reach)(w:Int):Int×Bool×Int:=(bif((iF r w) !=0)then(0,false,(iF r w))else(bif(decide ((gh (i64.wrap (w - 1)) r) > 1073741824))then(0,false,0)else((gh (i64.wrap (w - 1)) r),true,0)))
def pw (r:Reach)(w:Int):Prop:=(((iF r w) !=0)=false->(uE (i64.wrap (w - 1)) r))
@[go_sem] def sB:List SV->Option Con:=(pD .reach fun r=>(pI fun w=>(pE (.det (pw r w) (.tup [.v (.int .i64 ((iK r w).1)),.v (.bool ((iK r w).2.1)),.v (.int .i64 ((iK r w).2.2))])))))
theorem yY:FnOk Tryz.prog 189 sB:=by
 have hG:ConsOk Tryz.prog (mkG [(220,yW),(221,yX)] []):=av (cgc DW (cgc DX cg0)) cg0;refine ax [.o,.o,.o] mixed am hG (fn:=Tryz.f189) (c:=aa Tryz.f189) kr kr kr kr (a7 fun r=>(bY fun w=>(aj (fun hp=>?_))));dsimp only[aw]at hp;unfold pw at hp;refine⟨nbl rfl,L0,ag _,?_⟩;unfold aa Tryz.f189;try unfold iK
 exact zq1
def aQ (x:Reach)(w:Int):Int×Bool:=(bif((w==0) ||(decide (w > 1073741824)))then(0,(w==0))else(bif(!(iK x w).2.1)then(0,false)else((if(iK x w).1<x.siphon then x.siphon else(iK x w).1),true)))
def oL (x:Reach)(w:Int):Prop:=(((w==0) ||(decide (w > 1073741824)))=false->(pw x w))
@[go_sem] def w6:List SV->Option Con:=(pD .reach fun x=>(pI fun w=>(pE (.det (oL x w) (.tup [.v (.int .i64 ((aQ x w).1)),.v (.bool ((aQ x w).2))])))))
theorem BU:FnOk Tryz.prog 184 w6:=by
 have hG:ConsOk Tryz.prog (mkG [(189,sB)] []):=av (cgc yY cg0) cg0;refine ax [.o,.o] mixed am hG (fn:=Tryz.f184) (c:=aa Tryz.f184) kr kr kr kr (a7 fun x=>(bY fun w=>(aj (fun hp=>?_))));dsimp only[aw]at hp;unfold oL at hp;refine⟨nbl rfl,L0,ag _,?_⟩;unfold aa Tryz.f184;try unfold aQ
 exact zq1
abbrev o_:SV:=.ls [.fn 217 [] [],.fn 218 [] [],.fn 219 [] []]
open Classical in
noncomputable def tY:List SV->Option Con:=fun l=>if l=[o_]then some (.det True (.fn 245 [] [.ep [o_] 0]))else none
theorem G5:FnOk Tryz.prog 216 tY:=by
 have hG:ConsOk Tryz.prog (mkG [] []):=av (by simp) (by simp);refine ax [.o] mixed am hG (fn:=Tryz.f216) (c:=aa Tryz.f216) kr kr kr kr fun l con h hp=>?_;unfold tY at h;split at h
 rename_i hl;subst hl;cases h;refine⟨nbl rfl,L0,by simp_all [aa,Tryz.f216,ap],?_⟩;unfold aa Tryz.f216;simp only[go_sem,o_,true_imp_iff,Nat.reduceBEq,Nat.reduceLeDiff,Nat.reduceAdd,Nat.reduceSub,Nat.reduceMul,true_and,and_true,implies_true,aiW,ajy];rfl;cases h
def fo:List SV->Option Con:=pE (.det True (.fn 245 [] [.ep [o_] 0]))
theorem uF:FnOk Tryz.prog 186 fo:=by
 have hG:ConsOk Tryz.prog (mkG [(216,tY)] []):=av (by
  intro x hx;simp only[aiu,ai9,or_false]at hx;rcases hx with rfl;exact G5) (by simp)
 refine ax [.o] mixed am hG (fn:=Tryz.f186) (c:=aa Tryz.f186) kr kr kr kr fun l con h hp=>?_;unfold fo at h;obtain⟨rfl,rfl⟩:=CJ h;refine⟨nbl rfl,L0,by simp_all [aa,Tryz.f186,ap],?_⟩;unfold aa Tryz.f186;simp only[go_sem,tY,o_,true_imp_iff,Nat.reduceBEq,Nat.reduceLeDiff,Nat.reduceAdd,Nat.reduceSub,Nat.reduceMul,true_and,and_true,implies_true,aiW,ajy,if_true];rfl
def uG (k:Nat)(x:Order):Int:=match k with|0=>qM x|1=>uD x|_=>qN x
def zL (a b:Order):Nat->Unit->Int⊕Unit:=fun k _=>bif(bq (uG k a) (uG k b) !=0)then .inl (bq (uG k a) (uG k b))else .inr ()
def aA (a b:Order):Int:=match aq (zL a b) 3 0 ()with| .inl x=>x| .inr _=>0
open Classical in
noncomputable def lh:List SV->Option Con:=pD .order fun a=>pD .order fun b=>fun l=>if l=[.ep [o_] 0]then some (.det True (.i (aA a b)))else none
theorem x9:FnOk Tryz.prog 245 lh:=by
 have hG:ConsOk Tryz.prog (mkG [(97,fS),(217,o8),(218,rV),(219,o9)] []):=av (by
  intro x hx;simp only[aiu,ai9,or_false]at hx;rcases hx with rfl|rfl|rfl|rfl;exact iC;exact yS;exact BP;exact yT) (by simp)
 refine ax [.o] mixed am hG (fn:=Tryz.f245) (c:=aa Tryz.f245) kr kr kr kr fun l con h hp=>?_;unfold lh at h;obtain⟨a,l0,rfl,h0⟩:=Ju h;obtain⟨b,l1,rfl,h1⟩:=Ju h0;split at h1
 rotate_left
 cases h1;rename_i hl;subst hl;cases h1;clear h h0;obtain⟨ah,ai,al,ao⟩:=a;obtain⟨bh,bi,bl,bo⟩:=b;refine⟨nbl rfl,(fun id st=>bif Nat.beq id 0 then some (LC (ρ:=Int) (σ:=Unit) (lk 3 st.t=.ptr 0 0/\lk 4 st.t=.ptr 1 0/\lk 9 st.t=o_/\lk 10 st.t=.i 3/\lk 11 st.t=.i 0/\st.h=[.cells (cellsOf .order ⟨ah,ai,al,ao⟩),.cells (cellsOf .order ⟨bh,bi,bl,bo⟩)]) (aq (zL ⟨ah,ai,al,ao⟩ ⟨bh,bi,bl,bo⟩) 3 0 ()) (fun _=>.ret) (fun x=>⟨[(5,.i x)],[.dead,.dead]⟩) (fun _=>⟨[],[.dead,.dead]⟩))else none),?_,?_⟩
 ·unfold aa Tryz.f245;simp only[ap,true_and,and_true];refine HX mixed am hG kr fun st lc hC hp=>?_;simp only[go_sem,Nat.reduceBEq,aip]at hC;subst hC;obtain⟨t,h⟩:=st;dsimp only[LC]at hp;obtain⟨e1,e2,e3,e4,e5,rfl⟩:=hp;refine⟨_,_,_,zL ⟨ah,ai,al,ao⟩ ⟨bh,bi,bl,bo⟩,fun _ _=>True,3,(),_,_,_,(fun k _=>⟨[(3,.ptr 0 0),(4,.ptr 1 0),(9,o_),(10,.i 3),(11,.i (k:Int))],[.cells (cellsOf .order ⟨ah,ai,al,ao⟩),.cells (cellsOf .order ⟨bh,bi,bl,bo⟩)]⟩),[0,1],rfl,kU _ _ _ fun _ _ _ _=>trivial,aio _,?_,fun k s hk hpk=>⟨L0,?_,?_⟩⟩;simp only[go_sem,e1,e2,e3,e4,e5,o_,Nat.reduceBEq,Nat.reduceLeDiff,Nat.reduceAdd,true_and,and_true];grind
  simp only[ap,and_self,true_and,and_true]
  ·have hk4:k=0\/k=1\/k=2\/k=3:=by omega
   have hw0:i64.wrap ((0:Int)+1)=((0+1:Nat):Int):=by decide
   have hw1:i64.wrap ((1:Int)+1)=((1+1:Nat):Int):=by decide
   have hw2:i64.wrap ((2:Int)+1)=((2+1:Nat):Int):=by decide
   rcases hk4 with rfl|rfl|rfl|rfl;all_goals
    simp only[go_sem,fS,o8,rV,o9,o_,zL,uG,true_imp_iff,false_imp_iff,ait,air,ajY,Nat.reduceBEq,Nat.reduceLeDiff,Nat.reduceAdd,Nat.reduceSub,Nat.reduceMul,Nat.reduceLT,Int.reduceLE,Int.reduceLT,Int.reduceToNat,Int.reduceNeg,true_and,and_true,and_self,implies_true,forall_const,reduceCtorEq,ak3]
   all_goals (first|done|(repeat' (first|with_reducible refine And.intro ?_ ?_|((with_reducible show _≠_);first|assumption|omega|(simp_all;done) |grind) |with_reducible intro _)) <;>(first|done|assumption|rfl|omega|decide|(simp only[*,cond_true,cond_false,go_sem,true_imp_iff,false_imp_iff,ait,air,ajY,Nat.reduceBEq,Nat.reduceLeDiff,Nat.reduceAdd,Nat.reduceSub,Nat.reduceMul,Int.reduceLE,Int.reduceLT,Int.reduceToNat,Int.reduceNeg,true_and,and_true,and_self,implies_true,forall_const,reduceCtorEq];done) |(simp only[*,cond_true,cond_false,go_sem,true_imp_iff,false_imp_iff,ait,air,ajY,Nat.reduceBEq,Nat.reduceLeDiff,Nat.reduceAdd,Nat.reduceSub,Nat.reduceMul,Int.reduceLE,Int.reduceLT,Int.reduceToNat,Int.reduceNeg,true_and,and_true,and_self,implies_true,forall_const,reduceCtorEq];(repeat' (first|with_reducible refine And.intro ?_ ?_|((with_reducible show _≠_);first|assumption|omega|(simp_all;done) |grind) |with_reducible intro _)) <;>(first|done|assumption|rfl|omega|decide))))
   all_goals trace_state
 unfold aa Tryz.f245;unfold aA;simp only[go_sem,o_,true_imp_iff,false_imp_iff,ait,Nat.reduceBEq,Nat.reduceLeDiff,Nat.reduceAdd,Nat.reduceSub,Nat.reduceMul,true_and,and_true,implies_true,sz,aiW,ajy];grind
attribute [go_sem] fo lh
@[go_sem] def jD (a0:District)(a1:List Order)(k_0:Nat)(s_0:Unit):Unit⊕Unit:=letI q0:=a1.getD k_0 default;letI q1:=(decide ((k_0:Int) > 0))&&(decide ((aA (a1.getD (Int.toNat (i64.wrap ((k_0:Int) - 1))) default) q0)>=0));letI q2:=decide (q0.litres > 1073741824);letI q3:=decide (q0.hour>=a0.hours);letI q4:=decide (q0.litres<1);letI q5:=decide (q0.index<0);letI q6:=decide (q0.hour<0);(bif q0.outlet then(bif((((((q6||q3) ||q5) ||(decide (q0.index>=(a0.farms.length:Int)))) ||q4) ||q2) ||q1)then .inl ()else .inr ())else(bif((((((q6||q3) ||q5) ||(decide (q0.index>=(a0.reaches.length:Int)))) ||q4) ||q2) ||q1)then .inl ()else .inr ()))
def l8 (a0:District)(a1:List Order)(k_0:Nat)(s_0:Unit):Prop:=letI q0:=a1.getD k_0 default;letI q2:=i64.wrap ((k_0:Int) - 1);letI q1:=(decide ((k_0:Int) > 0))=true->(0<=q2/\q2< (a1.length:Int));letI q3:=decide (q0.litres > 1073741824);letI q4:=decide (q0.hour>=a0.hours);letI q5:=decide (q0.litres<1);letI q6:=decide (q0.index<0);letI q7:=decide (q0.hour<0);(a0.reaches.length<=aI->((q0.outlet=true->(a0.farms.length<=aI->((((((q7||q4) ||q6) ||(decide (q0.index>=(a0.farms.length:Int)))) ||q5) ||q3)=false->q1)))/\(q0.outlet=false->((((((q7||q4) ||q6) ||(decide (q0.index>=(a0.reaches.length:Int)))) ||q5) ||q3)=false->q1))))
def eQ (a0:District)(a1:List Order):Int:=(bif((aU a0) !=0)then(aU a0)else(bif(decide ((a1.length:Int) > 4096))then 2 else(match aq (jD a0 a1) a1.length 0 ()with| .inl x_0_0=>220| .inr s_0=>0)))
def pL (a0:District)(a1:List Order):Prop:=(((aU a0) !=0)=false->(a1.length<=aI->((decide ((a1.length:Int) > 4096))=false->(a1.length<=aI->okI (jD a0 a1) (l8 a0 a1) a1.length 0 ()))))
@[go_sem] def ya:List SV->Option Con:=(pD .district fun a0=>(pR .order fun a1=>(pE (.det (pL a0 a1) (.v (.int .i64 (eQ a0 a1)))))))
theorem zq34 {p:Prop}(h:p:=by simp only[go_sem,Nat.reduceBEq,Nat.reduceLeDiff,Nat.reduceLT,decide_true,Nat.reduceAdd,Nat.reduceSub,Nat.reduceMul,Int.reduceLE,Int.reduceLT,Int.reduceToNat,Int.reduceNeg,reduceCtorEq,fo,lh,if_true];all_goals exact cl):p:=h
theorem CT:FnOk Tryz.prog 213 ya:=by
 have hG:ConsOk Tryz.prog (mkG [(57,fun l=>qL (bD [.st .district] l)),(186,fo),(245,lh)] []):=av (cgc (tq.norm [.st .district]) (cgc uF (cgc x9 cg0))) cg0;refine ax [.o] mixed am hG (fn:=Tryz.f213) (c:=aa Tryz.f213) kr kr kr kr (a7 fun a0=>(bB fun a1=>(aj (fun hp=>?_))));dsimp only[aw]at hp;unfold pL at hp;refine⟨nbl rfl,(fun id st=>bif Nat.beq id 0 then some (LCR (ρ:=Unit) (σ:=Unit) 1 [] [0] (fun k_0 s_0=>⟨[(1,.rs .order a1),(2,.ptr 0 0),(5,.fn 245 [] [.ep [.ls [.fn 217 [] [],.fn 218 [] [],.fn 219 [] []]] 0]),(18,.rs .order a1),(19,.v (.int .i64 (a1.length:Int))),(20,.v (.int .i64 (k_0:Int)))],[.cells (cellsOf .district a0)]⟩) (jD a0 a1) (l8 a0 a1) a1.length () (a1.length<=aI) (fun _=>.ret) (fun x_0_0=>⟨[(4,.v (.int .i64 220))],[.dead]⟩) st)else none),?_,?_⟩;unfold aa Tryz.f213;simp only[ap,true_and,and_true];refine a8 mixed am hG kr (fun _=>rfl) (a1.length:Int) rfl iB (fun hb0 k_0 s_0 hlt0 hq0 hw hc=>⟨L0,ag _,?_⟩) (fun hb0 s_0 hc=>?_);unfold l8 at hq0;try simp only[hw,air]at hq0
 exact bT (jl [0]);exact bN (jl [0]);unfold aa Tryz.f213;try unfold eQ
 exact zq34
def dW (d:District)(l_:List Order):Int:=(bif(((eQ d l_) ==0)&&(decide ((i64.wrap ((d.reaches.length:Int)*d.hours)) > 1024)))then 2 else(eQ d l_))
def oM (d:District)(l_:List Order):Prop:=(pL d l_)
@[go_sem] def w7:List SV->Option Con:=(pD .district fun d=>(pR .order fun l_=>(pE (.det (oM d l_) (.v (.int .i64 (dW d l_)))))))
theorem BV:FnOk Tryz.prog 181 w7:=by
 have hG:ConsOk Tryz.prog (mkG [(213,fun l=>ya (bD [.st .district,.sl .order] l))] []):=av (cgc (CT.norm [.st .district,.sl .order]) cg0) cg0;refine ax [.o] mixed am hG (fn:=Tryz.f181) (c:=aa Tryz.f181) kr kr kr kr (a7 fun d=>(bB fun l_=>(aj (fun hp=>?_))));dsimp only[aw]at hp;unfold oM at hp;refine⟨nbl rfl,L0,ag _,?_⟩;unfold aa Tryz.f181;try unfold dW
 exact zq1
@[go_sem] def tu (l_:List Int)(k_0:Nat)(s_0:Unit):Int⊕Unit:=(bif((l_.getD k_0 0) !=0)then .inl (l_.getD k_0 0)else .inr ())
def gZ (l_:List Int):Int:=(match aq (tu l_) l_.length 0 ()with| .inl x_0_0=>x_0_0| .inr s_0=>0)
@[go_sem] def yZ:List SV->Option Con:=(pR .int fun l_=>(pE (.det True (.v (.int .i64 (gZ l_))))))
theorem DY:FnOk Tryz.prog 128 yZ:=by
 have hG:ConsOk Tryz.prog (mkG [] []):=av cg0 cg0;refine ax [.o] mixed am hG (fn:=Tryz.f128) (c:=aa Tryz.f128) kr kr kr kr (bB fun l_=>(aj (fun hp=>?_)));dsimp only[aw]at hp;refine⟨nbl rfl,(fun id st=>bif Nat.beq id 0 then some (LCR (ρ:=Int) (σ:=Unit) 0 [] [] (fun k_0 s_0=>⟨[(5,.rs .int l_),(6,.v (.int .i64 (l_.length:Int))),(7,.v (.int .i64 (k_0:Int)))],[]⟩) (tu l_) pT l_.length () (l_.length<=aI) (fun _=>.ret) (fun x_0_0=>⟨[(2,.v (.int .i64 x_0_0))],[]⟩) st)else none),?_,?_⟩;unfold aa Tryz.f128;simp only[ap,true_and,and_true];refine a8 mixed am hG kr (fun _=>rfl) (l_.length:Int) rfl iB (fun hb0 k_0 s_0 hlt0 _ hw hc=>⟨L0,ag _,?_⟩) (fun hb0 s_0 hc=>?_);exact bT (jl []);exact bN (jl []);unfold aa Tryz.f128;try unfold gZ
 exact zq1
def jp (a:Claim)(b:Claim):Int:=(gZ ([(bq a.hour b.hour),(bq a.rank b.rank),(bq a.right b.right),(bq a.farm b.farm)]))
@[go_sem] def y1:List SV->Option Con:=(pD .claim fun a=>(pD .claim fun b=>(pE (.det True (.v (.int .i64 (jp a b)))))))
theorem DZ:FnOk Tryz.prog 74 y1:=by
 have hG:ConsOk Tryz.prog (mkG [(97,fS),(128,fun l=>yZ (bD [.sl .int] l))] []):=av (cgc iC (cgc (DY.norm [.sl .int]) cg0)) cg0;refine ax [.o] mixed am hG (fn:=Tryz.f74) (c:=aa Tryz.f74) kr kr kr kr (a7 fun a=>(a7 fun b=>(aj (fun hp=>?_))));dsimp only[aw]at hp;refine⟨nbl rfl,L0,ag _,?_⟩;unfold aa Tryz.f74;try unfold jp
 exact zq1
@[go_sem] def fH (a0:District)(a1:List Claim)(k_0:Nat)(s_0:Unit):Unit⊕Unit:=letI q0:=a1.getD k_0 default;letI q1:=a0.rights.getD (Int.toNat (q0.right)) default;(bif((((!((((((((decide (q0.right>=0))&&(decide (q0.right< (a0.rights.length:Int))))&&(decide (q0.farm>=0)))&&(decide (q0.farm< (a0.farms.length:Int))))&&(decide (q0.hour>=0)))&&(decide (q0.hour<a0.hours)))&&(decide (q0.litres>=1)))&&(decide (q0.litres<=1073741824)))) ||(q1.kind !=1)) ||(q1.rank !=q0.rank)) ||((decide ((k_0:Int) > 0))&&(decide ((jp (a1.getD (Int.toNat (i64.wrap ((k_0:Int) - 1))) default) q0)>=0))))then .inl ()else .inr ())
def km (a0:District)(a1:List Claim)(k_0:Nat)(s_0:Unit):Prop:=letI q1:=a1.getD k_0 default;letI q2:=a0.rights.getD (Int.toNat (q1.right)) default;letI q4:=i64.wrap ((k_0:Int) - 1);letI q5:=(a0.rights.length:Int);letI q0:= !((((((((decide (q1.right>=0))&&(decide (q1.right<q5)))&&(decide (q1.farm>=0)))&&(decide (q1.farm< (a0.farms.length:Int))))&&(decide (q1.hour>=0)))&&(decide (q1.hour<a0.hours)))&&(decide (q1.litres>=1)))&&(decide (q1.litres<=1073741824)));letI q3:=0<=q1.right/\q1.right<q5;((q0=false->q3)/\(((q0||(q2.kind !=1))=false->q3)/\(((q0||(q2.kind !=1)) ||(q2.rank !=q1.rank))=false->((decide ((k_0:Int) > 0))=true->(0<=q4/\q4< (a1.length:Int))))))
def aK (a0:District)(a1:List Claim):Int:=(bif((aU a0) !=0)then(aU a0)else(bif(decide ((a1.length:Int) > 4096))then 2 else(match aq (fH a0 a1) a1.length 0 ()with| .inl x_0_0=>260| .inr s_0=>0)))
def li (a0:District)(a1:List Claim):Prop:=(((aU a0) !=0)=false->(a1.length<=aI->((decide ((a1.length:Int) > 4096))=false->(a1.length<=aI->okI (fH a0 a1) (km a0 a1) a1.length 0 ()))))
@[go_sem] def uH:List SV->Option Con:=(pD .district fun a0=>(pR .claim fun a1=>(pE (.det (li a0 a1) (.v (.int .i64 (aK a0 a1)))))))
theorem yb:FnOk Tryz.prog 32 uH:=by
 have hG:ConsOk Tryz.prog (mkG [(57,fun l=>qL (bD [.st .district] l)),(74,y1)] []):=av (cgc (tq.norm [.st .district]) (cgc DZ cg0)) cg0;refine ax [.o] mixed am hG (fn:=Tryz.f32) (c:=aa Tryz.f32) kr kr kr kr (a7 fun a0=>(bB fun a1=>(aj (fun hp=>?_))));dsimp only[aw]at hp;unfold li at hp;refine⟨nbl rfl,(fun id st=>bif Nat.beq id 0 then some (LCR (ρ:=Unit) (σ:=Unit) 1 [] [0] (fun k_0 s_0=>⟨[(1,.rs .claim a1),(2,.ptr 0 0),(16,.rs .claim a1),(17,.v (.int .i64 (a1.length:Int))),(18,.v (.int .i64 (k_0:Int)))],[.cells (cellsOf .district a0)]⟩) (fH a0 a1) (km a0 a1) a1.length () (a1.length<=aI) (fun _=>.ret) (fun x_0_0=>⟨[(4,.v (.int .i64 260))],[.dead]⟩) st)else none),?_,?_⟩;unfold aa Tryz.f32;simp only[ap,true_and,and_true];refine a8 mixed am hG kr (fun _=>rfl) (a1.length:Int) rfl iB (fun hb0 k_0 s_0 hlt0 hq0 hw hc=>⟨L0,ag _,?_⟩) (fun hb0 s_0 hc=>?_);unfold km at hq0;try simp only[hw,air]at hq0
 exact bT (jl [0]);exact bN (jl [0]);unfold aa Tryz.f32;try unfold aK
 exact zq1
def CU (d:District):Bool:=((((((decide ((d.reaches.length:Int)<=100))&&(decide ((d.farms.length:Int)<=700)))&&(decide ((d.crops.length:Int)<=100)))&&(decide ((d.rights.length:Int)<=300)))&&(decide ((d.duties.length:Int)<=300)))&&(decide ((d.wells.length:Int)<=100)))
@[go_sem] def Dy:List SV->Option Con:=(pD .district fun d=>(pE (.det True (.v (.bool (CU d))))))
theorem Jz:FnOk Tryz.prog 87 Dy:=by
 have hG:ConsOk Tryz.prog (mkG [] []):=av cg0 cg0;refine ax [.o] mixed am hG (fn:=Tryz.f87) (c:=aa Tryz.f87) kr kr kr kr (a7 fun d=>(aj (fun hp=>?_)));dsimp only[aw]at hp;refine⟨nbl rfl,L0,ag _,?_⟩;unfold aa Tryz.f87;try unfold CU
 exact zq1
def aO (n:Int)(lo:Int)(hi:Int):Bool:=((decide (n>=lo))&&(decide (n<=hi)))
@[go_sem] def lj (b:Int)(k_0:Nat)(s_0:Int×Int):Int⊕(Int×Int):=(bif(decide (s_0.2 > 0))then .inr (s_0.2,(Int.tmod s_0.1 s_0.2))else .inl s_0.1)
def AV (b:Int)(k_0:Nat)(s_0:Int×Int):Prop:=((decide (s_0.2 > 0))=true->s_0.2≠0)
def wg (a:Int)(b:Int):Int:=(match aq (lj b) (Int.toNat b+1) 0 (a,b)with| .inl x_0_0=>x_0_0| .inr s_0=>default)
def yc (a:Int)(b:Int):Prop:=(okI (lj b) (AV b) (Int.toNat b+1) 0 (a,b)/\(∀ z_,aq (lj b) (Int.toNat b+1) 0 (a,b)≠ .inr z_))
def xP (n:Int):Int:=(bif(decide (n<0))then(i64.wrap (0 - n))else n)
def lR (a:Ratio):Bool:=(((((decide (a.d>=1))&&(decide (a.d<=1073741824)))&&(decide (a.n>=(-1073741824))))&&(decide (a.n<=1073741824)))&&((wg (xP a.n) a.d) ==1))
def sC (a:Ratio):Prop:=(((((decide (a.d>=1))&&(decide (a.d<=1073741824)))&&(decide (a.n>=(-1073741824))))&&(decide (a.n<=1073741824)))=true->(yc (xP a.n) a.d))
def nT (a:Ratio):Int:=(bif(!(lR a))then 120 else 0)
def Aq (a:Ratio):Prop:=(sC a)
def AW (a:Ratio)(b:Ratio):Bool:=(decide ((i64.wrap (a.n*b.d)) < (i64.wrap (b.n*a.d))))
def AX (a:Ratio)(b:Ratio):Bool:=((lR a)&&(lR b))
def BW (a:Ratio)(b:Ratio):Prop:=((sC a)/\((lR a)=true->(sC b)))
def zM (a:Ratio)(b:Ratio):Int×Int:=(bif(!(AX a b))then(0,120)else(bif(AW a b)then((-1),0)else(bif(AW b a)then(1,0)else(0,0))))
def Li (a:Ratio)(b:Ratio):Prop:=(BW a b)
def oN (x:Ratio×Ratio):Bool:=(bif(((nT x.1) !=0) ||((nT x.2) !=0))then false else(((decide (x.1.n>=0))&&(decide ((zM x.1 x.2).1<=0)))&&(decide (x.2.n<=x.2.d))))
def y3 (x:Ratio×Ratio):Prop:=((Aq x.1)/\((((nT x.1) !=0)=false->(Aq x.2))/\((((nT x.1) !=0) ||((nT x.2) !=0))=false->(Li x.1 x.2))))
def y4 (x:Reach):Bool:=(bif(((!(aO x.delay 1 16)) ||(!(aO x.cap 0 1073741824))) ||(!(aO x.bank 0 1099511627776)))then false else(bif(((!(aO x.siphon 0 (if x.bank<x.cap then x.bank else x.cap))) ||(!(aO x.evap.lo 0 x.evap.hi))) ||(decide (x.evap.hi > 1073741824)))then false else(oN x.seep)))
def Ar (x:Reach):Prop:=((((!(aO x.delay 1 16)) ||(!(aO x.cap 0 1073741824))) ||(!(aO x.bank 0 1099511627776)))=false->((((!(aO x.siphon 0 (if x.bank<x.cap then x.bank else x.cap))) ||(!(aO x.evap.lo 0 x.evap.hi))) ||(decide (x.evap.hi > 1073741824)))=false->(y3 x.seep)))
@[go_sem] def ll (l_:List Reach)(k_0:Nat)(s_0:Unit):Unit⊕Unit:=letI q0:=l_.getD k_0 default;letI q1:=(k_0:Int);(bif(((q1==0)&&(q0.up !=(-1))) ||((decide (q1 > 0))&&(!(aO (q0.up) 0 (i64.wrap (q1 - 1))))))then .inl ()else(bif(!(y4 q0))then .inl ()else .inr ()))
def AY (l_:List Reach)(k_0:Nat)(s_0:Unit):Prop:=(l_.length<=aI->(((((k_0:Int) ==0)&&((l_.getD k_0 default).up !=(-1))) ||((decide ((k_0:Int) > 0))&&(!(aO ((l_.getD k_0 default).up) 0 (i64.wrap ((k_0:Int) - 1))))))=false->(Ar (l_.getD k_0 default))))
def wh (l_:List Reach):Bool:=(match aq (ll l_) l_.length 0 ()with| .inl x_0_0=>false| .inr s_0=>(decide ((l_.length:Int) > 0)))
def D0 (l_:List Reach):Prop:=okI (ll l_) (AY l_) l_.length 0 ()
@[go_sem] def qQ (a0:District)(k_0:Nat)(s_0:Unit):Unit⊕Unit:=(bif(!(aO ((a0.crops.getD k_0 default).need) 0 1048576))then .inl ()else .inr ())
@[go_sem] def qR (a0:District)(k_1:Nat)(s_1:Unit):Unit⊕Unit:=letI q0:=a0.farms.getD k_1 default;(bif((!(aO (q0.reach) 0 (i64.wrap ((a0.reaches.length:Int) - 1)))) ||(!(aO (q0.area) 0 1048576)))then .inl ()else(bif(((q0.area==0)&&(q0.crop !=(-1))) ||((decide (q0.area > 0))&&(!(aO (q0.crop) 0 (i64.wrap ((a0.crops.length:Int) - 1))))))then .inl ()else .inr ()))
def y5 (a0:District):Bool:=(match aq (qQ a0) a0.crops.length 0 ()with| .inl x_0_0=>false| .inr s_0=>(match aq (qR a0) a0.farms.length 0 ()with| .inl x_1_0=>false| .inr s_1=>true))
def y6 (a0:District)(a1:Right):Bool:=letI q0:=(((a1.rank==0)&&(a1.litres==0))&&(a1.every==0))&&(a1.length==0);(bif((((!(aO a1.farm 0 (i64.wrap ((a0.farms.length:Int) - 1)))) ||(!(aO a1.reach 0 (i64.wrap ((a0.reaches.length:Int) - 1))))) ||(!(aO a1.since 0 a1.to))) ||(decide (a1.to>=a0.hours)))then false else(bif(a1.kind==1)then(((((a1.reach==0)&&(aO a1.rank 0 1048576))&&(aO a1.litres 1 1073741824))&&(aO a1.length 1 a1.every))&&(decide (a1.every<=a0.hours)))else(bif(a1.kind==2)then((q0&&(a1.since==0))&&(a1.to==(i64.wrap (a0.hours - 1))))else(bif(a1.kind==3)then q0 else false))))
@[go_sem] def qS (a0:District)(k_0:Nat)(s_0:Unit):Unit⊕Unit:=(bif(!(y6 a0 (a0.rights.getD k_0 default)))then .inl ()else .inr ())
@[go_sem] def qT (a0:District)(k_1:Nat)(s_1:Unit):Unit⊕Unit:=letI q0:=a0.duties.getD k_1 default;(bif(((!(aO (q0.farm) 0 (i64.wrap ((a0.farms.length:Int) - 1)))) ||(!(aO (q0.reach) 0 (i64.wrap ((a0.reaches.length:Int) - 1))))) ||(!(aO (q0.due) 0 a0.hours)))then .inl ()else .inr ())
def vM (a0:District):Bool:=(bif(((!(aO a0.hours 1 4096)) ||(!(aO a0.tank.start 0 a0.tank.cap))) ||(decide (a0.tank.cap > 1099511627776)))then false else(bif((!(wh a0.reaches)) ||(!(y5 a0)))then false else(match aq (qS a0) a0.rights.length 0 ()with| .inl x_0_0=>false| .inr s_0=>(match aq (qT a0) a0.duties.length 0 ()with| .inl x_1_0=>false| .inr s_1=>true))))
def As (a0:District):Prop:=((((!(aO a0.hours 1 4096)) ||(!(aO a0.tank.start 0 a0.tank.cap))) ||(decide (a0.tank.cap > 1099511627776)))=false->(D0 a0.reaches))
def gA (d:District):Int:=(bif(((((decide ((d.reaches.length:Int) > 64)) ||(decide ((d.farms.length:Int) > 600))) ||(decide ((d.crops.length:Int) > 32))) ||(decide ((d.rights.length:Int) > 256))) ||(decide ((d.duties.length:Int) > 256)))then 2 else(bif(!(vM d))then 191 else 0))
def wi (d:District):Prop:=(d.reaches.length<=aI->((((((decide ((d.reaches.length:Int) > 64)) ||(decide ((d.farms.length:Int) > 600))) ||(decide ((d.crops.length:Int) > 32))) ||(decide ((d.rights.length:Int) > 256))) ||(decide ((d.duties.length:Int) > 256)))=false->(As d)))
@[go_sem] def sD (a:List Claim)(b:List Claim)(k_0:Nat)(s_0:Unit):Unit⊕Unit:=letI q0:=a.getD k_0 default;letI q1:=b.getD k_0 default;(bif(!((q0.right==q1.right)&&((q0.farm==q1.farm)&&((q0.hour==q1.hour)&&((q0.litres==q1.litres)&&(q0.rank==q1.rank))))))then .inl ()else .inr ())
def tv (a:List Claim)(b:List Claim)(k_0:Nat)(s_0:Unit):Prop:=(a.length<=aI->(0<=(k_0:Int)/\(k_0:Int) < (b.length:Int)))
def rX (a:List Claim)(b:List Claim):Bool:=(bif((a.length:Int) !=(b.length:Int))then false else(match aq (sD a b) a.length 0 ()with| .inl x_0_0=>false| .inr s_0=>true))
def qU (a:List Claim)(b:List Claim):Prop:=(a.length<=aI->(b.length<=aI->(((a.length:Int) !=(b.length:Int))=false->okI (sD a b) (tv a b) a.length 0 ())))
@[go_sem] def BX:List SV->Option Con:=(pR .claim fun a=>(pR .claim fun b=>(pE (.det (qU a b) (.v (.bool (rX a b)))))))
theorem G6:FnOk Tryz.prog 18 BX:=by
 have hG:ConsOk Tryz.prog (mkG [] []):=av cg0 cg0;refine ax [.o] mixed am hG (fn:=Tryz.f18) (c:=aa Tryz.f18) kr kr kr kr (bB fun a=>(bB fun b=>(aj (fun hp=>?_))));dsimp only[aw]at hp;unfold qU at hp;refine⟨nbl rfl,(fun id st=>bif Nat.beq id 0 then some (LCR (ρ:=Unit) (σ:=Unit) 0 [] [] (fun k_0 s_0=>⟨[(0,.rs .claim a),(1,.rs .claim b),(5,.v (.int .i64 (k_0:Int)))],[]⟩) (sD a b) (tv a b) a.length () (True) (fun _=>.ret) (fun x_0_0=>⟨[(4,.v (.bool false))],[]⟩) st)else none),?_,?_⟩;unfold aa Tryz.f18;simp only[ap,true_and,and_true];refine TG (a.length<=aI) mixed am hG kr (fun _=>rfl) (a.length:Int) rfl iB (fun hb0 k_0 s_0 hlt0 hq0 hw hc=>⟨L0,ag _,?_⟩) (fun hb0 s_0 hc=>?_) fun hb0 k_0 s_0=>?_;unfold tv at hq0;try simp only[hw,air]at hq0
 exact bT (jl []);exact bN (jl []);exact zq7;unfold aa Tryz.f18;try unfold rX
 exact zq1
def be (a:Claim)(b:Claim):Bool:=(bif(a.hour !=b.hour)then(decide (a.hour<b.hour))else(bif(a.rank !=b.rank)then(decide (a.rank<b.rank))else(bif(a.right !=b.right)then(decide (a.right<b.right))else(decide (a.farm<b.farm)))))
def nU (a0:District)(a1:Claim):Bool:=letI q0:=a0.rights.getD (Int.toNat a1.right) default;(bif((((((((decide (a1.right<0)) ||(decide (a1.right>=(a0.rights.length:Int)))) ||(decide (a1.farm<0))) ||(decide (a1.farm>=(a0.farms.length:Int)))) ||(decide (a1.hour<0))) ||(decide (a1.hour>=a0.hours))) ||(decide (a1.litres<1))) ||(decide (a1.litres > 1073741824)))then false else((q0.kind==1)&&(q0.rank==a1.rank)))
def wj (a0:District)(a1:Claim):Prop:=letI q1:=(a0.rights.length:Int);letI q0:=0<=a1.right/\a1.right<q1;(((((((((decide (a1.right<0)) ||(decide (a1.right>=q1))) ||(decide (a1.farm<0))) ||(decide (a1.farm>=(a0.farms.length:Int)))) ||(decide (a1.hour<0))) ||(decide (a1.hour>=a0.hours))) ||(decide (a1.litres<1))) ||(decide (a1.litres > 1073741824)))=false->(q0/\(((a0.rights.getD (Int.toNat a1.right) default).kind==1)=true->q0)))
@[go_sem] def uI (d:District)(c:List Claim)(k_0:Nat)(s_0:Unit):Unit⊕Unit:=(bif((!(nU d (c.getD k_0 default))) ||((decide ((k_0:Int) > 0))&&(!(be (c.getD (Int.toNat (i64.wrap ((k_0:Int) - 1))) default) (c.getD k_0 default)))))then .inl ()else .inr ())
def CV (d:District)(c:List Claim)(k_0:Nat)(s_0:Unit):Prop:=letI q0:=i64.wrap ((k_0:Int) - 1);letI q1:=c.getD k_0 default;(c.length<=aI->((wj d q1)/\((!(nU d q1))=false->((decide ((k_0:Int) > 0))=true->(0<=q0/\q0< (c.length:Int))))))
def vN (d:District)(c:List Claim):Int:=(bif((gA d) !=0)then(gA d)else(bif(decide ((c.length:Int) > 4096))then 2 else(match aq (uI d c) c.length 0 ()with| .inl x_0_0=>260| .inr s_0=>0)))
def At (d:District)(c:List Claim):Prop:=((wi d)/\(((gA d) !=0)=false->(c.length<=aI->((decide ((c.length:Int) > 4096))=false->okI (uI d c) (CV d c) c.length 0 ()))))
def pN (d:District)(c:List Claim):Bool:=((CU d)&&((decide ((c.length:Int)<=300)) ||((decide ((c.length:Int) > 4096))&&(decide ((c.length:Int)<=5000)))))
@[go_sem] def vO:List SV->Option Con:=(pD .district fun d=>(pR .claim fun c=>(pE (.det True (.v (.bool (pN d c)))))))
theorem AZ:FnOk Tryz.prog 41 vO:=by
 have hG:ConsOk Tryz.prog (mkG [(87,fun l=>Dy (bD [.st .district] l))] []):=av (cgc (Jz.norm [.st .district]) cg0) cg0;refine ax [.o] mixed am hG (fn:=Tryz.f41) (c:=aa Tryz.f41) kr kr kr kr (a7 fun d=>(bB fun c=>(aj (fun hp=>?_))));dsimp only[aw]at hp;refine⟨nbl rfl,L0,ag _,?_⟩;unfold aa Tryz.f41;try unfold pN
 exact zq1
end Go.Sx
end
section
namespace Go.Sx
theorem O3 {κ υ:Type}[DecidableEq κ](l:List (κ×υ))(x z:κ)(y:υ):jn (tT l x y) z=if z=x then some y else jn l z:=by
 induction l with
 |nil=>rfl
 |cons a r ih=>
  obtain⟨a,b⟩:=a;unfold tT;by_cases h:x=a
  simp_all [jn];rw[if_neg h];unfold jn;grind
def sR {κ υ:Type}(l:List (κ×υ)):List κ:=l.map fun p=>p.1
theorem HZ {κ υ:Type}[DecidableEq κ]:∀ {l:List (κ×υ)} {x:κ},x ∉ sR l->jn l x=none
 | [],_,_=>rfl
 |(a,b)::r,x,h=>by
  unfold jn;rw[if_neg (fun e=>h (by simp[sR,e]))];exact HZ fun hm=>h (by grind [sR])
theorem Lj {κ υ:Type}[DecidableEq κ]:∀ {l:List (κ×υ)},(sR l).Nodup->∀ {x:κ} {y:υ},jn l x=some y↔(x,y)∈l
 | [],_,x,y=>by simp[jn]
 |(a,b)::r,h,x,y=>by
  have h':=ai1.1 h;unfold jn;by_cases e:x=a
  grind
  rw[if_neg e,Lj h'.2];grind
theorem H0 {κ υ:Type}[DecidableEq κ](x:κ)(y:υ):∀ (l:List (κ×υ)),(sR l).Nodup->(sR (tT l x y)).Nodup/\∀ z,z∈sR (tT l x y)->z=x\/z∈sR l
 | [],_=>by simp[tT,sR]
 |(a,b)::r,h=>by
  have h':=ai1.1 h;unfold tT;by_cases e:x=a
  subst e;rw[if_pos rfl];exact⟨h,fun z hz=>.inr hz⟩;rw[if_neg e];obtain⟨g1,g2⟩:=H0 x y r h'.2;refine⟨ai1.2 ⟨fun hm=>?_,g1⟩,fun z hz=>?_⟩;rcases g2 _ hm with h3|h3;grind
  exact h'.1 h3;rcases aiu.1 hz with rfl|hz;exact .inr ai6;rcases g2 z hz with h3|h3;exact .inl h3;exact .inr (aiz _ h3)
theorem CW {κ υ:Type}[DecidableEq κ](x:κ):∀ (l:List (κ×υ)),(sR l).Nodup->(sR (DM l x)).Nodup/\(∀ z,z∈sR (DM l x)->z∈sR l)/\∀ z,jn (DM l x) z=if z=x then none else jn l z
 | [],_=>by simp[DM,sR,jn]
 |(a,b)::r,h=>by
  have h':=ai1.1 h;unfold DM;by_cases e:x=a
  subst e;rw[if_pos rfl];refine⟨h'.2,fun z hz=>aiz _ hz,fun z=>?_⟩;by_cases hz:z=x
  subst hz;rw[if_pos rfl];exact HZ h'.1;simp_all [jn];rw[if_neg e];obtain⟨g1,g2,g3⟩:=CW x r h'.2;refine⟨ai1.2 ⟨fun hm=>h'.1 (g2 _ hm),g1⟩,fun z hz=>?_,fun z=>?_⟩;rcases aiu.1 hz with rfl|hz;exact ai6;exact aiz _ (g2 z hz);simp only[jn,g3];grind
theorem QR {kk vk:Tag}(l:List (kk.T×vk.T))(x z:kk.T)(y:vk.T):aZ kk vk (fN kk vk l x y) z=if z=x then y else aZ kk vk l z:=by
 grind [aZ,fN,O3]
theorem QS {kk vk:Tag}(l:List (kk.T×vk.T))(hN:(sR l).Nodup)(x z:kk.T):aZ kk vk (Bj kk vk l x) z=if z=x then gz vk else aZ kk vk l z:=by
 grind [aZ,Bj,CW]
end Go.Sx
end
section
namespace Go.Sx
open Go.RowKit
section
variable {P:Program}{ts:Tis}{G:Cons}
theorem Au {n:Nat}{g:FuncId}{i1 q:Nat}{o1:Oper}{tys:Array TypeId}{Q:Exit->Act->World->Prop}{a:Act}{w:World}{b:Nat}
  (ho1:o1.dst=none/\o1.op=.defer ⟨.value (.func g),#[.tmp q],tys⟩/\o1.guard=none)
  (hq:a.tmps.getD q undef=.pointer (some ⟨b,0,none⟩))
  (h:Q .normal { tmps:=a.tmps,defers:= { target:=.fn (.func g) #[],args:= #[.pointer (some ⟨b,0,none⟩)]}::a.defers} w):
  (Code.region i1 #[o1] false).wpIn (rd none) n P Q a w:=by
 obtain⟨d1,p1,t1,s1,f1,g1⟩:=o1;obtain⟨rfl,rfl,rfl⟩:=ho1;refine wpIn_region ?_;have hr1:List.range (#[(⟨none,.defer ⟨.value (.func g),#[.tmp q],tys⟩,t1,s1,f1,none⟩:Oper)]:Array Oper).size=[0]:=rfl;rw[hr1];simp only[wpOpsIn,Oper.wpIn,Region.wanted];have e1:(#[(⟨none,.defer ⟨.value (.func g),#[.tmp q],tys⟩,t1,s1,f1,none⟩:Oper)]:Array Oper)[0]? =some ⟨none,.defer ⟨.value (.func g),#[.tmp q],tys⟩,t1,s1,f1,none⟩:=rfl;rw[e1];simp only[if_true];refine⟨fun _ _=>trivial,?_⟩;have r2:((⟨none,.defer ⟨.value (.func g),#[.tmp q],tys⟩,t1,s1,f1,none⟩:Oper).semAt (rd none).round a.eval).run P w=.ok (.defer { target:=.fn (.func g) #[],args:= #[.pointer (some ⟨b,0,none⟩)]}) w:=by
  simp[Oper.semAt,execOp,go_sem,Act.eval,hq];try rfl
 rw[r2];simp only[Oper.uponIn_defer];exact h
theorem O4 {g:FuncId}{RC:Value->Option SV}(hrec:Lg P g RC)(pks:List Pk)(hm:P.follows .mixedOrders=true)(hts:ts.ok P)(hG:ConsOk P G){f:FuncId}{fn:Func}{c0 c1:Code}{i1 q:Nat}{o1:Oper}{tys:Array TypeId}
  (hf:P.funcs[f]? =some fn) (hb:fn.body=some (.seq c0 (.seq (.region i1 #[o1] false) c1))) (hname:(fn.name== "runtime.NumGoroutine")=false)
  (ho1:o1.dst=none/\o1.op=.defer ⟨.value (.func g),#[.tmp q],tys⟩/\o1.guard=none)
  (hc0:cD fn.ntmps c0=true) (hc1:cD fn.ntmps c1=true) {C:List SV->Option Con}
  (h:∀ l con,C l=some con->aw con->l.length<=fn.ntmps/\∃ L L' id,ap P none fn.ntmps L c0/\ap P none fn.ntmps L' c1/\exec ts G L c0 ⟨nN 0 l,[]⟩ (fun e st=>e=.normal/\lk q st.t=.ptr id 0/\G0 (ar st.h id)/\
   exec ts G L' c1 ⟨st.t,st.h⟩ (SX RC fn.results.toList ts (fun s=>dw con (we pks s)) id))):FnOk P f C:=by
 refine⟨fun l con _ args w=>?_,fun l con hcon hpre F w vs hF hvs=>?_⟩;simp_all [callFunc]
 ·obtain⟨hlen,L,L',id,hl,hl',hx⟩:=h l con hcon hpre;refine pW (n:=0) (callsIn_of_wp_marks hf hb trivial ?_);have hr:StRel F { w:=w,own:=cF} fn.ntmps cF ⟨nN 0 l,[]⟩ { tmps:=vs++Array.replicate (fn.ntmps - vs.size) undef,defers:=[]} w:=
   ⟨by have:=hvs.1;simp;omega,Dfr.nil,xL hF,Fr.refl _,fun t=>nR hvs _ t⟩
  refine wpIn_seq (wpIn_mono (oK hm hts hG c0 hc0 hl F _ _ hx cF _ w hr) ?_);intro e a1 w1 hq;cases e with
  |normal=>
   obtain⟨F1,own1,st1,hF1,hst1,_,hlk,_,hx1⟩:=hq;have hsq:=hst1.slots q;rw[hlk]at hsq;generalize hv:a1.tmps.getD q undef=pv at hsq;cases hsq with
   | @ptr _ _ b hd ho hp=>
   show(Code.seq (.region i1 #[o1] false) c1).wpIn (rd none) 0 P _ a1 w1;have hsz:=hst1.size;refine wpIn_seq (Au ho1 hv ?_);show c1.wpIn (rd none) 0 P _ _ w1;obtain⟨ms,Ds,k0,k1,k2,k3⟩:=hst1.defers;have k0':a1.defers=ms:=by grind
   let d:Deferred:= { target:=.fn (.func g) #[],args:= #[.pointer (some ⟨b,0,none⟩)]}
   let B:Bs:= { w:=w1,own:=own1,ds:=d::a1.defers}
   have hr2:StRel F1 B fn.ntmps own1 ⟨st1.t,st1.h⟩ { tmps:=a1.tmps,defers:=d::a1.defers} w1:=by
    exact⟨hsz,Dfr.nil,hst1.hp,Fr.refl B,hst1.slots⟩
   have hbd:∀ D∈Ds,¬ ∃ id hd,own1 id=some hd/\D∈hd.bs:=fun D hD ⟨i,hd,e,hm⟩ =>hst1.hp.apart i hd D e hm (k3 D hD).2.1;have fin:∀ F2 own2 st2 (a2:Act) w2,(∀ b,F1 b->F2 b)->StRel F2 B fn.ntmps own2 st2 a2 w2->fh (fun s=>dw con (we pks s)) (yB fn.results.toList ts st2)->
     LeavesInM (rd none) 0 P fn a2.tmps (fun e w'=>(∃ s u own',dw con s/\e=.returned u/\Handed F w own' w' s u/\Below w.heap.size w w')\/(∃ x,nQ con x/\e=.panicked [{ v:=x,recovered:=false}]/\Below w.heap.size w w')) a1.defers .returning w2:=by
    intro F2 own2 st2 a2 w2 hF2 hst2 hdone;have hB:StRel F2 { w:=w,own:=cF} fn.ntmps own2 st2 { a2 with defers:=[]} w2:=⟨hst2.size,Dfr.nil,hst2.hp,hst1.fr.trans ⟨hst2.fr.ids,hst2.fr.base,hst2.fr.os,hst2.fr.tape,hst2.fr.output,hst2.fr.size,hst2.fr.block⟩,hst2.slots⟩;have hkeep:∀ D∈Ds,w2.heap[D]? =some (.deferred (some [])):=fun D hD=>by
     rw[hst2.fr.block D ⟨qC (k3 D hD).2.2,hbd D hD⟩];grind
    rw[k0',<-aiQ ms];refine wT (by simp) Ds ms w2 k1 k2 hkeep fun w4 hs=>?_;have hst4:=(hB.shut (Ds:=Ds) (fun D hD=>⟨(k3 D hD).1,hF2 D (k3 D hD).2.1,hkeep D hD⟩) hs).less (fun c hc=>hF2 c (hF1 c hc)) rfl;simp only[yB]at hdone;cases hres:mz (k9 ts st2 fn.results.toList)with
    |none=>rw[hres]at hdone;exact hdone.elim
    |some s=>
     obtain⟨u,e1,e2⟩:=xK (P:=P) hts hst4 hres;rw[hres]at hdone;exact⟨u,e1,.inl ⟨_,u,cF,hdone,rfl,vJ hst4.hp.foreign (BJ (vG hst4.hp 4 s u e2)),qH hst4.fr⟩⟩
   have hinv:∀ w2:World,(invoke (.fn (.func g) #[]) #[.pointer (some ⟨b,0,none⟩)]).run P w2=.ok (.enter g #[.pointer (some ⟨b,0,none⟩)]) w2:=fun w2=>by simp[invoke,go_sem,hrec.1]
   refine wpIn_mono (oK hm hts hG c1 hc1 hl' F1 _ _ hx1 own1 _ w1 hr2) ?_;have idle:∀ (a':Act) (w':World) F2 own2 st2,(∀ b,F1 b->F2 b)->StRel F2 B fn.ntmps own2 st2 a' w'->fh (fun s=>dw con (we pks s)) (yB fn.results.toList ts st2)->
     LeavesInM (rd none) 0 P fn a'.tmps (fun e w'=>(∃ s u own',dw con s/\e=.returned u/\Handed F w own' w' s u/\Below w.heap.size w w')\/(∃ x,nQ con x/\e=.panicked [{ v:=x,recovered:=false}]/\Below w.heap.size w w')) a'.defers .returning w':=by
    intro a' w' F2 own2 st2 hF2 hst2 hdone;refine j_ hst2 (by simp) fun w2 hst3=>?_;refine⟨by simp,.inr ⟨fun h=>(by cases h),.func g,#[],g,#[.pointer (some ⟨b,0,none⟩)],rfl,hinv w2,fun _ _=>trivial,?_⟩⟩;refine(hrec.2.1 ⟨b,0,none⟩ w2).mono ?_;rintro e u' w3 ⟨⟨v,rfl⟩,rfl,rfl⟩;exact fin F2 own2 st2 { a' with defers:=B.ds} _ hF2 hst3 hdone
   intro e a' w' hq;cases e with
   |normal=>obtain⟨F2,own2,st2,h0,h1,h2⟩:=hq;exact idle a' w' F2 own2 st2 h0 h1 h2
   |ret=>obtain⟨F2,own2,st2,h0,h1,h2⟩:=hq;exact idle a' w' F2 own2 st2 h0 h1 h2
   |exit jd=>obtain⟨F2,own2,st2,h0,h1,h2⟩:=hq;exact h2.elim
   |panic ch=>
    obtain⟨x,F2,own2,st2,h0,h1,hm,rfl⟩:=hq;change SW fn.results.toList ts _ id st2 (RC x)at hm;cases m1:RC x with
    |none=>rw[m1]at hm;exact hm.elim
    |some s=>
    rw[m1]at hm;obtain⟨hm2,m4,m3⟩:=hm;obtain⟨y,m2⟩:=FI hm2;refine j_ h1 (by simp) fun w2 hst3=>?_;refine⟨by simp,.inr ⟨fun h=>(by cases h),.func g,#[],g,#[.pointer (some ⟨b,0,none⟩)],rfl,hinv w2,fun _ _=>trivial,?_⟩⟩;obtain⟨hd2,e2,l2⟩:=hst3.fr.ids id hd ho;refine(hrec.2.2 x s m1 F2 own2 w2 st2.h id hd2 b y m4 hst3.hp m2 e2 (l2.1.trans hp)).mono ?_;rintro e u' w3 ⟨⟨v,rfl⟩,rfl,own3,q1,q2⟩;exact fin F2 own3 ⟨st2.t,_⟩ { a' with defers:=B.ds} w3 h0 (hst3.moved q1 q2) m3
   |_=>exact hq.elim
  |ret=>obtain⟨F1,own,st,h0,h1,h2,_⟩:=hq;cases h2
  |exit jd=>obtain⟨F1,own,st,h0,h1,h2,_⟩:=hq;cases h2
  |panic ch=>obtain⟨x,F1,own,st,h0,h1,⟨h2,_⟩,_⟩:=hq;cases h2
  |_=>exact hq.elim
end
end Go.Sx
end
section
namespace Go.Sx
open Go.Proofs Go.RowKit
def RCJ:Value->Option SV
 | .iface t (.int .i64 e) =>bif Nat.beq t 36 then some (.i e)else none|_=>none
theorem JA:Lg Tryz.prog 56 RCJ:=by
 obtain⟨fn,hfn,hbody,hn,hres⟩:∃ fn,Tryz.prog.funcs[56]? =some fn/\fn.body=some (aa Tryz.f56)/\fn.ntmps=14/\fn.results= #[]:=⟨Tryz.f56,by kernel_rfl,by kernel_rfl,by kernel_rfl,by kernel_rfl⟩;have hG:ConsOk Tryz.prog (mkG [] []):=av (by simp) (by simp);refine⟨fun args w=>by kernel_rfl,fun p w=>?_,?_⟩;refine callsDIn_of_wpSIn hfn hbody trivial fun c₀ cs hu=>?_;unfold aa Tryz.f56;refine wpSIn_seq (wpSIn_region ?_);simp[wpOpsSIn,go_sem,recoverD,hu,hn,Exit.thenS,Oper.about,Region.wanted];refine wpSIn_of_wpIn rfl (wpIn_block (wpIn_seq (wpIn_region ?_)));simp[wpOpsIn,Oper.wpIn,go_sem,Oper.about,Region.wanted];refine wpIn_cond_true (by simp[Act.eval]) (wpIn_region ?_);simp[wpOpsIn,Oper.wpIn,go_sem,Oper.about,Region.wanted];cases c₀;simp_all [Exit.inBlock,bodyPostS,results];intro x s hx F own w h id hd b y hfw hp hob ho hpb;unfold RCJ at hx;split at hx
 rename_i t e;cases ht:Nat.beq t 36 with
 |false=>rw[ht]at hx;cases hx
 |true=>
  rw[ht]at hx;cases hx;have ht':=ain ht;subst ht';refine callsDIn_of_wpSIn hfn hbody trivial fun c₀ cs hu=>?_;unfold aa Tryz.f56;refine wpSIn_seq (wpSIn_region ?_);simp[wpOpsSIn,go_sem,recoverD,hu,hn,Exit.thenS,Oper.about,Region.wanted];refine wpSIn_of_wpIn rfl (wpIn_block (wpIn_seq (wpIn_region ?_)));simp[wpOpsIn,Oper.wpIn,go_sem,Oper.about,Region.wanted];refine wpIn_cond_false (by simp[Act.eval]) ?_;have hr:StRel F { w:=w,own:=own} 14 own ⟨[(0,.ptr id 0),(5,.v (.iface 36 (.int .i64 e)))],h⟩ { tmps:= #[.pointer (some ⟨b,0,none⟩),undef,undef,undef,undef,.iface 36 (.int .i64 e),undef,.bool false,undef,undef,undef,undef,undef,undef],defers:=[]} w:=by
   refine⟨rfl,Dfr.nil,hp,Fr.refl { w:=w,own:=own},fun t=>?_⟩;rw[pV];by_cases h0:0=t
   subst h0;rw[if_pos rfl];exact .ptr ho hpb;rw[if_neg h0,pV];by_cases h1:5=t
   subst h1;rw[if_pos rfl];exact .v _;rw[if_neg h1];exact .any _
  refine wpIn_seq (wpIn_mono (xO (ts:=ts) (L:=L0) (Q:=fun st=>st=⟨[(10,.v (.int .i64 e)),(9,.b true),(8,.tup [.v (.int .i64 e),.b true]),(0,.ptr id 0),(5,.v (.iface 36 (.int .i64 e)))],h⟩) mixed am hG kr ?_ hr) ?_);simp only[go_sem,hob,hfw,cond_false,Nat.reduceBEq,Nat.reduceLeDiff,Nat.reduceAdd,true_and,and_true,true_imp_iff];rintro ex a1 w1 ⟨rfl,own1,st1,hst1,rfl⟩;have h9:=hst1.slots 9;have h9':a1.tmps.getD 9 undef=.bool true:=bR h9;refine wpIn_cond_true (by simpa[Act.eval]using h9') ?_;refine wpIn_seq (wpIn_mono (xO (ts:=ts) (L:=L0) (Q:=fun st=>st=⟨[(3,.v (.int .i64 e)),(10,.v (.int .i64 e)),(9,.b true),(8,.tup [.v (.int .i64 e),.b true]),(0,.ptr id 0),(5,.v (.iface 36 (.int .i64 e)))],h⟩) mixed am hG kr ?_ hst1) ?_);simp only[go_sem,hob,hfw,cond_false,Nat.reduceBEq,Nat.reduceLeDiff,Nat.reduceAdd,true_and,and_true,true_imp_iff];rintro ex a2 w2 ⟨rfl,own2,st2,hst2,rfl⟩;refine wpIn_mono (xO (ts:=ts) (L:=L0) (Q:=fun st=>st.h=bM h id (.cells [.i e])) mixed am hG kr ?_ hst2) ?_;simp only[go_sem,hob,hfw,cond_false,xN (h:=h) (i:=id) (o:=.cells [.v (.int .i64 e)]) rfl hfw,Nat.reduceBEq,Nat.reduceLeDiff,Nat.reduceAdd,true_and,and_true,true_imp_iff];rintro ex a' w' ⟨rfl,own3,st3,hst3,hh⟩;have hd0:a'.defers=[]:=by
   obtain⟨ms,Ds,q0,q1,q2,q3⟩:=hst3.defers;cases Ds with
   |nil=>rw[q0];simp at q1;simp[q1]
   |cons D r=>
    obtain⟨m1,m2,_⟩:=q3 D (by simp);have:=hp.foreign D m2;simp only at m1;omega
  refine⟨hd0,.panicking [{ v:=.iface 36 (.int .i64 e),recovered:=true}],?_,_,by simp[results,hres];rfl,⟨_,rfl⟩,rfl,own3,hh▸hst3.hp,hst3.fr⟩;cases c₀;simp_all
 cases hx
end Go.Sx
end
section
namespace Go.Sx
open Go.Proofs
open IntKind (i64 u64)
theorem nV {l0 l1:List Nat}(a0:JL l0)(a1:JL l1){p:Prop}(h:JL l0->JL l1->p:=by intro ja jb;(first|done|(repeat' (first|with_reducible refine And.intro ?_ ?_|((with_reducible show _≠_);first|assumption|omega|(simp_all [cy,fK];done) |grind) |with_reducible intro _)) <;>(first|done|with_reducible exact Empty.elim ‹Empty› |with_reducible assumption|rfl|omega|assumption|decide|exact fk ja|exact fk jb|exact czl|(simp only[*,cond_true,cond_false,aiP,aiY,go_sem,Nat.reduceBEq,Nat.reduceLeDiff,Nat.reduceLT,decide_true,Nat.reduceAdd,Nat.reduceSub,Nat.reduceMul,Int.reduceLE,Int.reduceLT,Int.reduceToNat,Int.reduceNeg,reduceCtorEq];(repeat' (first|with_reducible refine And.intro ?_ ?_|((with_reducible show _≠_);first|assumption|omega|(simp_all [cy,fK];done) |grind) |with_reducible intro _)) <;>(first|done|assumption|rfl|omega|decide|exact fk ja|exact fk jb|(simp_all [cy,fK];done))) |(simp_all [okI,cy,fK];done) |(simp_all [cy,fK];(first|done|exact fk2 ja|exact fk2 jb)) |exact fk2 ja|exact fk2 jb))):p:=h a0 a1
theorem qV {l0 l1:List Nat}(a0:JL l0)(a1:JL l1){p:Prop}(h:JL l0->JL l1->p:=by intro ja jb;simp only[go_sem,Nat.reduceBEq,Nat.reduceLeDiff,Nat.reduceLT,decide_true,Nat.reduceAdd,Nat.reduceSub,Nat.reduceMul,Int.reduceLE,Int.reduceLT,Int.reduceToNat,Int.reduceNeg,reduceCtorEq,hc,hw];all_goals exact nV ja jb):p:=h a0 a1
theorem px {l0 l1:List Nat}(a0:JL l0)(a1:JL l1){p:Prop}(h:JL l0->JL l1->p:=by intro ja jb;simp only[go_sem,Nat.reduceBEq,Nat.reduceLeDiff,Nat.reduceLT,decide_true,Nat.reduceAdd,Nat.reduceSub,Nat.reduceMul,Int.reduceLE,Int.reduceLT,Int.reduceToNat,Int.reduceNeg,reduceCtorEq,hc];all_goals exact nV ja jb):p:=h a0 a1
def aV (n:Int)(lo:Int)(hi:Int):Bool:=((decide (n>=lo))&&(decide (n<=hi)))
@[go_sem] def g6:List SV->Option Con:=(pI fun n=>(pI fun lo=>(pI fun hi=>(pE (.det True (.v (.bool (aV n lo hi))))))))
theorem je:FnOk Tryz.prog 52 g6:=by
 have hG:ConsOk Tryz.prog (mkG [] []):=av cg0 cg0;refine ax [.o] mixed am hG (fn:=Tryz.f52) (c:=aa Tryz.f52) kr kr kr kr (bY fun n=>(bY fun lo=>(bY fun hi=>(aj (fun hp=>?_)))));dsimp only[aw]at hp;refine⟨nbl rfl,L0,ag _,?_⟩;unfold aa Tryz.f52;try unfold aV
 exact zq1
def FW (ok:Bool)(e:Int):Unit:=(bif(!ok)then default else())
def az (ok:Bool)(e:Int):Bool:=(bif(!ok)then false else true)
@[go_sem] def lm:List SV->Option Con:=(pB fun ok=>(pI fun e=>(pE (.may (az ok e) (.tup []) (.iface 36 (.int .i64 e))))))
theorem nk:FnOk Tryz.prog 58 lm:=by
 have hG:ConsOk Tryz.prog (mkG [] []):=av cg0 cg0;refine ax [] mixed am hG (fn:=Tryz.f58) (c:=aa Tryz.f58) kr kr kr kr (TH fun ok=>(bY fun e=>(aj (fun hp=>?_))));dsimp only[aw]at hp;refine⟨nbl rfl,L0,ag _,?_⟩;unfold aa Tryz.f58;try unfold FW
 try unfold az
 exact zq1
@[go_sem] def Av (df:List Int)(k_0:Nat)(s_0:Unit):Int⊕Unit:=(bif((df.getD k_0 0) !=0)then .inl (df.getD k_0 0)else .inr ())
def l9 (df:List Int):Int:=(match aq (Av df) df.length 0 ()with| .inl x_0_0=>x_0_0| .inr s_0=>0)
@[go_sem] def BY:List SV->Option Con:=(pR .int fun df=>(pE (.det True (.v (.int .i64 (l9 df))))))
theorem G7:FnOk Tryz.prog 96 BY:=by
 have hG:ConsOk Tryz.prog (mkG [] []):=av cg0 cg0;refine ax [.o] mixed am hG (fn:=Tryz.f96) (c:=aa Tryz.f96) kr kr kr kr (bB fun df=>(aj (fun hp=>?_)));dsimp only[aw]at hp;refine⟨nbl rfl,(fun id st=>bif Nat.beq id 0 then some (LCR (ρ:=Int) (σ:=Unit) 0 [] [] (fun k_0 s_0=>⟨[(3,.v (.int .i64 0)),(6,.rs .int df),(7,.v (.int .i64 (df.length:Int))),(8,.v (.int .i64 (k_0:Int)))],[]⟩) (Av df) pT df.length () (df.length<=aI) (fun _=>.ret) (fun x_0_0=>⟨[(2,.v (.int .i64 x_0_0))],[]⟩) st)else none),?_,?_⟩;unfold aa Tryz.f96;simp only[ap,true_and,and_true];refine a8 mixed am hG kr (fun _=>rfl) (df.length:Int) rfl iB (fun hb0 k_0 s_0 hlt0 _ hw hc=>⟨L0,ag _,?_⟩) (fun hb0 s_0 hc=>?_);exact bT (jl []);exact bN (jl []);unfold aa Tryz.f96;try unfold l9
 exact zq1
def ay (x:Claim):Bool:=(x.litres==0)
@[go_sem] def pZ:List SV->Option Con:=(pD .claim fun x=>(pE (.det True (.v (.bool (ay x))))))
theorem tK:FnOk Tryz.prog 93 pZ:=by
 have hG:ConsOk Tryz.prog (mkG [] []):=av cg0 cg0;refine ax [.o] mixed am hG (fn:=Tryz.f93) (c:=aa Tryz.f93) kr kr kr kr (a7 fun x=>(aj (fun hp=>?_)));dsimp only[aw]at hp;refine⟨nbl rfl,L0,ag _,?_⟩;unfold aa Tryz.f93;try unfold ay
 exact zq1
def dX (a:Claim)(b:Claim):Int:=(l9 ([(bq a.rank b.rank),(bq a.right b.right),(bq a.farm b.farm)]))
@[go_sem] def uJ:List SV->Option Con:=(pD .claim fun a=>(pD .claim fun b=>(pE (.det True (.v (.int .i64 (dX a b)))))))
theorem zV:FnOk Tryz.prog 95 uJ:=by
 have hG:ConsOk Tryz.prog (mkG [(96,fun l=>BY (bD [.sl .int] l)),(97,fS)] []):=av (cgc (G7.norm [.sl .int]) (cgc iC cg0)) cg0;refine ax [.o] mixed am hG (fn:=Tryz.f95) (c:=aa Tryz.f95) kr kr kr kr (a7 fun a=>(a7 fun b=>(aj (fun hp=>?_))));dsimp only[aw]at hp;refine⟨nbl rfl,L0,ag _,?_⟩;unfold aa Tryz.f95;try unfold dX
 exact zq1
def fw (right:Int)(farm:Int)(hour:Int)(litres:Int):Claim:=({ right:=right,farm:=farm,hour:=hour,litres:=litres,rank:=2}:Claim)
@[go_sem] def wl:List SV->Option Con:=(pI fun right=>(pI fun farm=>(pI fun hour=>(pI fun litres=>(pE (.det True (.agg (cellsOf .claim (fw right farm hour litres)))))))))
theorem y7:FnOk Tryz.prog 40 wl:=by
 have hG:ConsOk Tryz.prog (mkG [] []):=av cg0 cg0;refine ax [.st .claim] mixed am hG (fn:=Tryz.f40) (c:=aa Tryz.f40) kr kr kr kr (bY fun right=>(bY fun farm=>(bY fun hour=>(bY fun litres=>(aj (fun hp=>?_))))));dsimp only[aw]at hp;refine⟨nbl rfl,L0,ag _,?_⟩;unfold aa Tryz.f40;try unfold fw
 exact zq1
@[go_sem] def uK (k_0:Nat)(s_0:List Right):Empty⊕(List Right):=.inr (s_0++([({ name:=(ByteArray.mk #[]),kind:=1,farm:=(([0,1,0]).getD k_0 0),reach:=0,rank:=2,litres:=4,since:=0,to:=7,every:=1,length:=1}:Right)]))
def rY (k_0:Nat)(s_0:List Right):Prop:=((s_0++([({ name:=(ByteArray.mk #[]),kind:=1,farm:=(([0,1,0]).getD k_0 0),reach:=0,rank:=2,litres:=4,since:=0,to:=7,every:=1,length:=1}:Right)])).length*88<=di)
def db:District:=(match aq (uK) (([0,1,0]).length) 0 ([])with| .inl x=>x.elim| .inr s_0=>({ name:=(ByteArray.mk #[]),hours:=8,tank:=({ cap:=900,start:=900}:Tank),reaches:=[({ name:=(ByteArray.mk #[]),up:=(-1),delay:=1,cap:=50,bank:=50,siphon:=0,evap:=({ lo:=0,hi:=0}:Range),seep:=(({ n:=0,d:=1}:Ratio),({ n:=0,d:=1}:Ratio))}:Reach)],farms:=[({ name:=(ByteArray.mk #[]),reach:=0,area:=0,crop:=(-1)}:Farm),({ name:=(ByteArray.mk #[]),reach:=0,area:=0,crop:=(-1)}:Farm),({ name:=(ByteArray.mk #[]),reach:=0,area:=0,crop:=(-1)}:Farm)],crops:=[],rights:=s_0,duties:=[],wells:=[]}:District))
def sE:Prop:=(([0,1,0]).length<=aI->okI (uK) (rY) (([0,1,0]).length) 0 ([]))
@[go_sem] def Aw:List SV->Option Con:=(pE (.det (sE) (.agg (cellsOf .district (db)))))
theorem FX:FnOk Tryz.prog 38 Aw:=by
 have hG:ConsOk Tryz.prog (mkG [] []):=av cg0 cg0;refine ax [.st .district] mixed am hG (fn:=Tryz.f38) (c:=aa Tryz.f38) kr kr kr kr (aj (fun hp=>?_));dsimp only[aw]at hp;unfold sE at hp;refine⟨nbl rfl,(fun id st=>bif Nat.beq id 0 then some (LCR (ρ:=Empty) (σ:=(List Right)) 3 [.cell 2 7 (.row .right ([]))] [0,1,2,3] (fun k_0 s_0=>⟨[(0,.ptr 0 0),(2,.ptr 2 0),(17,.rs .int ([0,1,0])),(18,.v (.int .i64 (([0,1,0]).length:Int))),(19,.v (.int .i64 (k_0:Int)))],[.cells [.v (.string (ByteArray.mk #[])),.v (.int .i64 0),.v (.int .i64 0),.v (.int .i64 0),.v (.slice none 0 0),.v (.slice none 0 0),.v (.slice none 0 0),.v (.slice none 0 0),.v (.slice none 0 0),.v (.slice none 0 0)],.dead,.cells [.v (.string (ByteArray.mk #[])),.v (.int .i64 8),.v (.int .i64 900),.v (.int .i64 900),.rs .reach ([({ name:=(ByteArray.mk #[]),up:=(-1),delay:=1,cap:=50,bank:=50,siphon:=0,evap:=({ lo:=0,hi:=0}:Range),seep:=(({ n:=0,d:=1}:Ratio),({ n:=0,d:=1}:Ratio))}:Reach)]),.rs .farm ([({ name:=(ByteArray.mk #[]),reach:=0,area:=0,crop:=(-1)}:Farm),({ name:=(ByteArray.mk #[]),reach:=0,area:=0,crop:=(-1)}:Farm),({ name:=(ByteArray.mk #[]),reach:=0,area:=0,crop:=(-1)}:Farm)]),.v (.slice none 0 0),.os 3,.v (.slice none 0 0),.v (.slice none 0 0)],.row .right s_0]⟩) (uK) (rY) (([0,1,0]).length) ([]) (([0,1,0]).length<=aI) ((·.elim)) ((·.elim)) st)else none),?_,?_⟩;unfold aa Tryz.f38;simp only[ap,true_and,and_true];refine a8 mixed am hG kr (fun _=>rfl) (([0,1,0]).length:Int) rfl iB (fun hb0 k_0 s_0 hlt0 hq0 hw hc=>⟨L0,ag _,?_⟩) (fun hb0 s_0 hc=>?_);unfold rY at hq0;try simp only[hw,air]at hq0
 exact qV (jl [0,1,2,5]) (jl [0,1,2,3]);exact px (jl [0,1,2,5]) (jl [0,1,2,3]);unfold aa Tryz.f38;try unfold db
 exact zq1
def jy:List Claim:=[(fw 0 0 3 4),(fw 1 1 3 4),(fw 2 0 3 4),(fw 0 0 5 4)]
@[go_sem] def Ax:List SV->Option Con:=(pE (.det True (.rs .claim (jy))))
theorem FY:FnOk Tryz.prog 39 Ax:=by
 have hG:ConsOk Tryz.prog (mkG [(40,wl)] []):=av (cgc y7 cg0) cg0;refine ax [.sl .claim] mixed am hG (fn:=Tryz.f39) (c:=aa Tryz.f39) kr kr kr kr (aj (fun hp=>?_));dsimp only[aw]at hp;refine⟨nbl rfl,L0,ag _,?_⟩;unfold aa Tryz.f39;try unfold jy
 exact zq1
def oO (d:District)(c:List Claim)(j:List Judgement):Bool:=((pN d c)&&((decide ((j.length:Int)<=20)) ||((decide ((j.length:Int) > 64))&&(decide ((j.length:Int)<=100)))))
@[go_sem] def Dz:List SV->Option Con:=(pD .district fun d=>(pR .claim fun c=>(pR .judgement fun j=>(pE (.det True (.v (.bool (oO d c j))))))))
theorem JB:FnOk Tryz.prog 11 Dz:=by
 have hG:ConsOk Tryz.prog (mkG [(41,fun l=>vO (bD [.st .district,.sl .claim] l))] []):=av (cgc (AZ.norm [.st .district,.sl .claim]) cg0) cg0;refine ax [.o] mixed am hG (fn:=Tryz.f11) (c:=aa Tryz.f11) kr kr kr kr (a7 fun d=>(bB fun c=>(bB fun j=>(aj (fun hp=>?_)))));dsimp only[aw]at hp;refine⟨nbl rfl,L0,ag _,?_⟩;unfold aa Tryz.f11;try unfold oO
 exact zq1
theorem lT (x y:Int):bq x y=if x<y then -1 else if x > y then 1 else 0:=by
 unfold bq mK;grind
theorem No (x:Int)(l:List Int):l9 (x::l)=if x=0 then l9 l else x:=by
 have key:∀ l:List Int,l9 l=match dR (ρ:=Int) (fun(x:Int) (_:Unit) =>bif(x !=0)then .inl x else .inr ()) l ()with| .inl y=>y| .inr _=>0:=fun l=>by
  unfold l9;have:=xM (ρ:=Int) (fun(x:Int) (_:Unit) =>bif(x !=0)then .inl x else .inr ()) 0 l ();rw[<-this];rfl
 rw[key,key];simp only[dR];grind
theorem QT:l9 []=0:=rfl
def w8:List (Int×Int)->Prop
 | [] =>False|(a,b)::r=>a<b\/a=b/\w8 r
theorem H1:∀ l:List (Int×Int),(l9 (l.map fun p=>bq p.1 p.2) <0↔w8 l)
 | [] =>by simp[QT,w8]
 |(a,b)::r=>by
  have hc:=lT a b;simp only[aiW,No,hc,w8];rcases aku a b with h|h|h;simp[h];subst h;simp only[ak0,if_false,if_true,true_and,false_or,gt_iff_lt];exact H1 r;omega
def tlt (a b:Claim):Prop:=w8 [(a.rank,b.rank),(a.right,b.right),(a.farm,b.farm)]
theorem O5 (a b:Claim):dX a b<0↔tlt a b:=H1 [(a.rank,b.rank),(a.right,b.right),(a.farm,b.farm)]
open Go.Shelf Go.Sort in
theorem TJ {α:Type}{f:α->α->Int}{r:α->α->Prop}(e:∀ x y,f x y<0↔r x y)(h1:∀ x,¬r x x)(h2:∀ x y z,r x y->r y z->r x z)(h3:∀ x y z,¬r x y->¬r y z->¬r x z):SWO (ltOf f):=by
 have e1:∀ x y,ltOf f x y=true↔r x y:=fun x y=>by unfold ltOf;grind
 have e2:∀ x y,ltOf f x y=false↔¬r x y:=fun x y=>by grind
 exact⟨fun x=>(e2 x x).2 (h1 x),fun x y z a b=>(e1 x z).2 (h2 x y z ((e1 x y).1 a) ((e1 y z).1 b)),fun x y z a b=>(e2 x z).2 (h3 x y z ((e2 x y).1 a) ((e2 y z).1 b))⟩
open Go.Shelf Go.Sort in
theorem Lk:SWO (ltOf dX):=TJ O5 (fun x=>by simp_all [tlt,w8]) (fun x y z h1 h2=>by simp only[tlt,w8,and_false,or_false]at *;omega) (fun x y z h1 h2=>by simp only[tlt,w8,and_false,or_false]at *;omega)
theorem ln {n i:Nat}{step:Nat->Unit->Unit⊕Unit}{s:Unit}(h:aq step n i s=.inr s):∀ j,i<=j->j<i+n->step j ()=.inr ():=by
 induction n generalizing i with
 |zero=>omega
 |succ n ih=>
  grind [aq]
theorem ko {b:Bool}{e:Int}:du b e=b:=by
 cases b <;>rfl
theorem BZ {a b c:Int}(h:aM [a,b,c]=true):a<=b/\b<=c:=by
 unfold aM at h;simp only[ais,aiI,ai2,Nat.reduceAdd,Nat.reduceSub]at h;split at h
 cases h;rename_i s hs;have h0:=ln hs 0 (by omega) (by omega);have h1:=ln hs 1 (by omega) (by omega);grind [b_,IntKind.wrap,IntKind.bits,IntKind.signed]
theorem vP {a b c d:Int}(h:aM [a,b,c,d]=true):a<=b/\b<=c/\c<=d:=by
 unfold aM at h;simp only[ais,aiI,ai2,Nat.reduceAdd,Nat.reduceSub]at h;split at h
 cases h;rename_i s hs;have h0:=ln hs 0 (by omega) (by omega);have h1:=ln hs 1 (by omega) (by omega);have h2:=ln hs 2 (by omega) (by omega);simp[b_,IntKind.wrap,IntKind.bits,IntKind.signed]at h0 h1 h2;grind
structure Right1 (d:District):Prop where
 reaches:d.reaches.length<=64
 one:0<d.reaches.length
 farms:d.farms.length<=600
 rights:d.rights.length<=256
 hours1:1<=d.hours
 hours:d.hours<=4096
 start0:0<=d.tank.start
 start:d.tank.start<=d.tank.cap
 cap:d.tank.cap<=1099511627776
 reach:∀ k,k<d.reaches.length->cg (k:Int) (d.reaches.getD k default)=true
 farm:∀ k,k<d.farms.length->0<=(d.farms.getD k default).reach/\(d.farms.getD k default).reach< (d.reaches.length:Int)
theorem y8 {d:District}(h:(aU d !=0)=false):Right1 d:=by
 have h:aU d=0:=by simpa using h
 unfold aU at h;simp only[ko]at h;cases h1:(decide ((d.reaches.length:Int)<=64)&&decide ((d.farms.length:Int)<=600)&&decide ((d.crops.length:Int)<=32)&&decide ((d.rights.length:Int)<=256)&&decide ((d.duties.length:Int)<=256))with
 |false=>grind
 |true=>
  rw[h1]at h;simp only[cond_true]at h;cases h2:gY d 191 with
  |false=>grind
  |true=>
   unfold gY at h2;simp only[ko]at h2;cases h3:(aM [1,d.hours,4096]&&aM [0,d.tank.start,d.tank.cap,1099511627776]&&decide ((d.reaches.length:Int) > 0))with
   |false=>grind
   |true=>
    rw[h3]at h2;simp only[cond_true]at h2;simp only[aim,decide_eq_true_eq]at h1 h3;obtain⟨r1,r2⟩:=BZ h3.1.1;obtain⟨r3,r4,r5⟩:=vP h3.1.2;split at h2
    cases h2;rename_i s0 hs0;split at h2
    cases h2;rename_i s1 hs1;split at h2
    cases h2;rename_i s2 hs2;refine⟨by omega,by omega,by omega,by omega,r1,r2,r3,r4,r5,fun k hk=>?_,fun k hk=>?_⟩;have:=ln hs0 k (by omega) (by omega);grind [d5,ko]
    have:=ln hs2 k (by omega) (by omega);grind [d6,ko,eA]
theorem uf {k:Nat}(h:k<9223372036854775807)(h1:0<k):i64.wrap ((k:Int) - 1)=((k - 1:Nat):Int):=by
 grind [cI]
theorem H2 {step:Nat->Unit->Unit⊕Unit}:∀ {n i:Nat},(∀ j,i<=j->j<i+n->step j ()=.inr ())->aq step n i ()=.inr ()
 |0,_,_=>rfl
 |n+1,i,h=>by
  simp only[aq];rw[h i (by omega) (by omega)];exact H2 fun j h1 h2=>h j (by omega) (by omega)
theorem nW {step:Nat->Unit->Unit⊕Unit}{n:Nat}:aq step n 0 ()=.inr ()↔∀ j,j<n->step j ()=.inr ():=
 ⟨fun h j hj=>ln h j (by omega) (by omega),fun h=>H2 fun j _ h2=>h j (by omega)⟩
theorem Np {ρ:Type}{n i:Nat}{step:Nat->Unit->ρ⊕Unit}{s:Unit}(h:aq step n i s=.inr s):∀ j,i<=j->j<i+n->step j ()=.inr ():=by
 induction n generalizing i with
 |zero=>omega
 |succ n ih=>
  grind [aq]
theorem nq {α:Type}(l:List α)(d:α){n:Nat}(h:n<l.length):l.getD n d=l[n]:=by
 grind
theorem qo {k:Tag}(l:List (k.T×Int))(x z:k.T)(y:Int):aZ k .int (fN k .int l x y) z=if z=x then y else aZ k .int l z:=by
 grind [aZ,fN,O3]
theorem aav {step:Nat->Unit->Unit⊕Unit}{n:Nat}{α:Type}{a b:α}:(match aq step n 0 ()with| .inl _=>a| .inr _=>b)=b\/∃ y,aq step n 0 ()=.inl y:=by
 grind
theorem FZ {a b c:Int}(h1:a<=b)(h2:b<=c):aM [a,b,c]=true:=by
 have e:aq (b_ [a,b,c]) 2 0 ()=.inr ():=nW.2 fun j hj=>by
  rcases(by omega:j=0\/j=1)with rfl|rfl;simp[b_,IntKind.wrap,IntKind.bits,IntKind.signed,ai4];omega;simp[b_,IntKind.wrap,IntKind.bits,IntKind.signed,ai4];omega
 simp_all [aM]
theorem F0 {a b c d:Int}(h1:a<=b)(h2:b<=c)(h3:c<=d):aM [a,b,c,d]=true:=by
 have e:aq (b_ [a,b,c,d]) 3 0 ()=.inr ():=nW.2 fun j hj=>by
  rcases(by omega:j=0\/j=1\/j=2)with rfl|rfl|rfl;simp[b_,IntKind.wrap,IntKind.bits,IntKind.signed,ai4];omega;simp[b_,IntKind.wrap,IntKind.bits,IntKind.signed,ai4];omega;simp[b_,IntKind.wrap,IntKind.bits,IntKind.signed,ai4];omega
 simp_all [aM]
theorem sS (d:District):aU d=0↔(d.reaches.length<=64/\d.farms.length<=600/\d.crops.length<=32/\d.rights.length<=256/\d.duties.length<=256)/\(1<=d.hours/\d.hours<=4096)/\(0<=d.tank.start/\d.tank.start<=d.tank.cap/\d.tank.cap<=1099511627776)/\0<d.reaches.length/\
  (∀ k,k<d.reaches.length->d5 d 191 k ()=.inr ())/\(∀ k,k<d.crops.length->fl d 191 k ()=.inr ())/\(∀ k,k<d.farms.length->d6 d 191 k ()=.inr ())/\(∀ k,k<d.rights.length->fT d 191 k ()=.inr ())/\(∀ k,k<d.duties.length->fU d 191 k ()=.inr ()):=by
 have hx:gY d 191=true↔(1<=d.hours/\d.hours<=4096)/\(0<=d.tank.start/\d.tank.start<=d.tank.cap/\d.tank.cap<=1099511627776)/\0<d.reaches.length/\
  (∀ k,k<d.reaches.length->d5 d 191 k ()=.inr ())/\(∀ k,k<d.crops.length->fl d 191 k ()=.inr ())/\(∀ k,k<d.farms.length->d6 d 191 k ()=.inr ())/\(∀ k,k<d.rights.length->fT d 191 k ()=.inr ())/\(∀ k,k<d.duties.length->fU d 191 k ()=.inr ()):=by
  unfold gY;simp only[ko];cases h3:(aM [1,d.hours,4096]&&aM [0,d.tank.start,d.tank.cap,1099511627776]&&decide ((d.reaches.length:Int) > 0))with
  |false=>
   simp_all [FZ,F0]
  |true=>
   simp only[aim,decide_eq_true_eq]at h3;have b1:=BZ h3.1.1;have b2:=vP h3.1.2;have b3:=h3.2;simp only[cond_true];grind [nW]
 unfold aU;simp only[ko];grind
theorem Ll:∀ (f n d:Nat),1<=d->d<=f->1<=n->∀ x,(CL f n d).getLastD x=Nat.gcd n d
 |0,n,d,h1,h2,_,x=>by omega
 |f+1,n,d,h1,h2,h3,x=>by
  unfold CL;have hm:max d 1=d:=by omega
  rw[if_neg (by omega),hm];by_cases h0:n % d=0
  rw[if_pos h0];have:d ∣ n:=Nat.dvd_of_mod_eq_zero h0;grind [Nat.gcd_eq_right]
  rw[if_neg h0];have hlt:n % d<d:=akc _ (by omega);have ih:=Ll f d (n % d) (by omega) (by omega) (by omega) n;grind [Nat.gcd_comm,Nat.gcd_rec]
theorem TK {n d:Nat}(h:1<=d):QO n d=Nat.gcd n d:=by
 unfold QO;rw[if_neg (by omega)];by_cases h0:n=0
 subst h0;cases d with
 |zero=>omega|succ d=>simp[CL]
 exact Ll d n d h (aio _) (by omega) d
theorem JD (b0:Int):∀ (n i:Nat) (a b:Int),0<=a->0<=b->b.toNat<n->aq (lj b0) n i (a,b)=.inl ((Nat.gcd a.toNat b.toNat:Nat):Int)
 |0,_,_,_,_,_,h=>by omega
 |n+1,i,a,b,ha,hb,h=>by
  simp only[aq,lj];by_cases h0:b > 0
  rw[decide_eq_true h0];simp only[cond_true];have e1:=ajZ (b:=b) ha;have e2:=Int.emod_nonneg a (by omega:b≠0);have e3:=ak4 a h0;rw[e1,JD b0 n (i+1) b (a % b) hb e2 (by omega)];have e4:(a % b).toNat=a.toNat % b.toNat:=by
   grind
  grind [Nat.gcd_comm,Nat.gcd_rec]
  rw[decide_eq_false h0];have:b=0:=by omega
  subst this;grind
theorem DA {a b:Int}(ha:0<=a)(hb:0<=b):wg a b=((Nat.gcd a.toNat b.toNat:Nat):Int):=by
 grind [wg,JD]
theorem QU {a b:Int}(ha:0<=a)(hb:0<=b):yc a b:=by
 refine⟨kU _ _ _ fun j s _ _ h=>?_,fun z h=>?_⟩;grind
 grind [JD]
theorem TL {n:Int}(h0:0<=n)(h1:n<18446744073709551616):u64.wrap n=n:=by
 grind [IntKind.wrap,IntKind.bits,IntKind.signed]
theorem G8 {n:Int}(h0: -1073741824<=n)(h1:n<=1073741824):ii n=(n.natAbs:Int):=by
 unfold ii;by_cases h:n<0
 rw[decide_eq_true h];simp only[cond_true,IntKind.wrap,IntKind.bits,IntKind.signed];grind
 rw[decide_eq_false h];simp only[cond_false];grind [TL]
theorem F4 {n:Int}(h0: -1073741824<=n)(h1:n<=1073741824):xP n=(n.natAbs:Int):=by
 unfold xP;by_cases h:n<0
 rw[decide_eq_true h];simp only[cond_true];grind [cI]
 grind
structure RatioOk (a:Ratio):Prop where
 d1:1<=a.d
 d:a.d<=1073741824
 n0: -1073741824<=a.n
 n:a.n<=1073741824
 gcd:Nat.gcd a.n.natAbs a.d.toNat=1
theorem CX (a:Ratio):bU a=0↔RatioOk a:=by
 unfold bU;cases h:((((decide (a.d<1)) ||(decide (a.d > 1073741824))) ||(decide (a.n< (-1073741824)))) ||(decide (a.n > 1073741824)))with
 |true=>
  simp only[akH,cond_true];simp only[aiV,decide_eq_true_eq]at h;refine⟨fun e=>(by cases e),fun r=>?_⟩;have:=r.d1;have:=r.d;have:=r.n0;have:=r.n;omega
 |false=>
  simp only[ai8,decide_eq_false_iff_not]at h;rw[G8 (by omega) (by omega),TL (by omega) (by omega),air,TK (by omega)];simp only[aj8];by_cases hg:Nat.gcd a.n.natAbs a.d.toNat=1
  rw[hg];exact⟨fun _=>⟨by omega,by omega,by omega,by omega,hg⟩,fun _=>rfl⟩;have:((Nat.gcd a.n.natAbs a.d.toNat:Nat):Int)≠1:=by omega
  rw[bne_iff_ne.2 this];exact⟨fun e=>(by cases e),fun r=>absurd r.gcd hg⟩
theorem CY (a:Ratio):lR a=true↔RatioOk a:=by
 unfold lR;constructor
 intro h;simp only[aim,decide_eq_true_eq,beq_iff_eq]at h;obtain⟨⟨⟨⟨h1,h2⟩,h3⟩,h4⟩,h5⟩:=h;rw[F4 (by omega) (by omega),DA (by omega) (by omega),air]at h5;exact⟨h1,h2,h3,h4,by omega⟩;intro r;have:=r.d1;have:=r.d;have:=r.n0;have:=r.n;simp only[aim,decide_eq_true_eq,beq_iff_eq];rw[F4 (by omega) (by omega),DA (by omega) (by omega),air,r.gcd];omega
theorem TM (a:Ratio):bU a=0\/bU a=120:=by
 unfold bU;grind
theorem Lm (a:Ratio):bU a=nT a:=by
 unfold nT;cases h:lR a with
 |true=>exact(CX a).2 ((CY a).1 h)
 |false=>
  have:bU a≠0:=fun e=>by
   have:=(CY a).2 ((CX a).1 e);grind
  have:=TM a;grind
theorem B0 (a:Ratio):lR a=(bU a==0):=by
 grind [CX,CY]
theorem aaw (a b:Ratio):iX a b=zM a b:=by
 unfold iX zM AX AW;rw[B0,B0,lT];grind
theorem Eh (a:Ratio):sC a:=fun h=>by
 simp only[aim,decide_eq_true_eq]at h;rw[F4 (by omega) (by omega)];exact QU (by omega) (by omega)
theorem aax (a b:Ratio):BW a b:=⟨Eh a,fun _=>Eh b⟩
theorem ug (a b c:Int):aM [a,b,c]=(decide (a<=b)&&decide (b<=c)):=by
 cases h:aM [a,b,c]with
 |true=>have:=BZ h;grind
 |false=>
  grind [FZ]
theorem xa (a b c d:Int):aM [a,b,c,d]=(decide (a<=b)&&decide (b<=c)&&decide (c<=d)):=by
 cases h:aM [a,b,c,d]with
 |true=>have:=vP h;grind
 |false=>
  grind [F0]
theorem TN (x:Ratio×Ratio):kf x=oN x:=by
 unfold kf oN;rw[aaw,<-Lm,<-Lm];unfold zM AX;rw[B0,B0];grind
theorem aay (i:Int)(x:Reach):cg i x=true↔((i > 0/\0<=x.up/\x.up<i)\/(¬i > 0/\x.up= -1))/\(1<=x.delay/\x.delay<=16)/\(0<=x.siphon/\x.siphon<=x.cap/\x.cap<=1073741824)/\(x.siphon<=x.bank/\x.bank<=1099511627776)/\(0<=x.evap.lo/\x.evap.lo<=x.evap.hi/\x.evap.hi<=1073741824)/\oN x.seep=true:=by
 unfold cg eA;rw[TN,ug,xa,xa,xa];grind
theorem aaz (x:Reach):y4 x=true↔(1<=x.delay/\x.delay<=16)/\(0<=x.siphon/\x.siphon<=x.cap/\x.cap<=1073741824)/\(x.siphon<=x.bank/\x.bank<=1099511627776)/\(0<=x.evap.lo/\x.evap.lo<=x.evap.hi/\x.evap.hi<=1073741824)/\oN x.seep=true:=by
 unfold y4 aO;grind
theorem F6 (l:List Reach)(k:Nat)(hk:k<4096):ll l k ()=.inr ()↔cg (k:Int) (l.getD k default)=true:=by
 unfold ll aO;rw[aay];have hb:∀ A B:Bool,((bif A then Sum.inl ()else bif B then Sum.inl ()else Sum.inr ()):Unit⊕Unit)=.inr ()↔A=false/\B=false:=fun A B=>by grind
 rw[hb,akd,aaz];generalize l.getD k default=x;generalize oN x.seep=q;by_cases h:0<k
 rw[uf (by omega) h];grind
 grind
theorem Nq {n:Nat}(h:n<=4096):i64.wrap ((n:Int) - 1)=(n:Int) - 1:=cI (by omega) (by omega)
theorem Xk (x:ByteArray):(x==x)=true:=by
 cases x with
 |mk d=>
  show(d==d)=true;simp
theorem TO (d:District)(x:Right)(h1:d.farms.length<=600)(h2:d.reaches.length<=64)(h3:1<=d.hours)(h4:d.hours<=4096):qK d x=y6 d x:=by
 unfold qK y6 eA aO;rw[xa,ug,ug,xa,Nq (by omega),Nq (by omega),cI (by omega: -9223372036854775808<=d.hours - 1) (by omega)];rw[Xk];grind
theorem ux (A:Bool):((bif A then Sum.inr ()else Sum.inl ()):Unit⊕Unit)=.inr ()↔A=true:=by grind
theorem uy (A:Bool):((bif A then Sum.inl ()else Sum.inr ()):Unit⊕Unit)=.inr ()↔A=false:=by grind
theorem H3 (d:District)(k:Nat):qQ d k ()=.inr ()↔fl d 191 k ()=.inr ():=by
 unfold qQ fl aO;simp_all [ko,uy,ux,ug]
theorem H4 (d:District)(k:Nat)(h1:d.reaches.length<=64)(h2:d.crops.length<=32):qR d k ()=.inr ()↔d6 d 191 k ()=.inr ():=by
 unfold qR d6 aO eA;simp only[ko];rw[ug,Nq (by omega),Nq (by omega)];grind
theorem H5 (d:District)(k:Nat)(h1:d.reaches.length<=64)(h2:d.farms.length<=600):qT d k ()=.inr ()↔fU d 191 k ()=.inr ():=by
 unfold qT fU aO eA;simp only[ko];rw[ug,Nq (by omega),Nq (by omega),ux,uy];grind
theorem DB (d:District)(k:Nat)(h1:d.farms.length<=600)(h2:d.reaches.length<=64)(h3:1<=d.hours)(h4:d.hours<=4096):qS d k ()=.inr ()↔fT d 191 k ()=.inr ():=by
 simp_all [qS,fT,ko,TO]
theorem m1 {r:Unit⊕Unit}{a b:Bool}:(match r with| .inl _=>a| .inr _=>b)=true↔(r=.inr ()/\b=true)\/((∃ y,r=.inl y)/\a=true):=by
 grind
theorem Ln (d:District)(h1:d.reaches.length<=64)(h2:d.farms.length<=600)(h3:d.crops.length<=32):vM d=true↔(1<=d.hours/\d.hours<=4096)/\(0<=d.tank.start/\d.tank.start<=d.tank.cap/\d.tank.cap<=1099511627776)/\0<d.reaches.length/\
  (∀ k,k<d.reaches.length->d5 d 191 k ()=.inr ())/\(∀ k,k<d.crops.length->fl d 191 k ()=.inr ())/\(∀ k,k<d.farms.length->d6 d 191 k ()=.inr ())/\(∀ k,k<d.rights.length->fT d 191 k ()=.inr ())/\(∀ k,k<d.duties.length->fU d 191 k ()=.inr ()):=by
 have hR:wh d.reaches=true↔(∀ k,k<d.reaches.length->d5 d 191 k ()=.inr ())/\0<d.reaches.length:=by
  unfold wh;refine akB (m1 (r:=aq (ll d.reaches) d.reaches.length 0 ()) (a:=false) (b:=decide ((d.reaches.length:Int) > 0))) ?_;simp only[ait,and_false,or_false,decide_eq_true_eq];rw[nW];refine and_congr ⟨fun h k hk=>?_,fun h k hk=>?_⟩ (by omega);unfold d5;rw[ko,ux];exact(F6 _ k (by omega)).1 (h k hk);have:=h k hk;unfold d5 at this;rw[ko,ux]at this;exact(F6 _ k (by omega)).2 this
 have hF:y5 d=true↔(∀ k,k<d.crops.length->fl d 191 k ()=.inr ())/\(∀ k,k<d.farms.length->d6 d 191 k ()=.inr ()):=by
  unfold y5;refine akB (m1 (r:=aq (qQ d) d.crops.length 0 ()) (a:=false) (b:=match aq (qR d) d.farms.length 0 ()with| .inl _=>false| .inr _=>true)) ?_;simp only[ait,and_false,or_false];rw[nW];refine akB (and_congr_right fun _=>m1) ?_;simp only[ait,and_false,or_false,and_true];rw[nW];exact and_congr ⟨fun h k hk=>(H3 d k).1 (h k hk),fun h k hk=>(H3 d k).2 (h k hk)⟩ ⟨fun h k hk=>(H4 d k h1 h3).1 (h k hk),fun h k hk=>(H4 d k h1 h3).2 (h k hk)⟩
 unfold vM;have hb:∀ A B q:Bool,(bif A then false else bif B then false else q)=true↔A=false/\B=false/\q=true:=fun A B q=>by grind
 rw[hb];refine akB (and_congr_right fun _=>and_congr_right fun _=>akB (m1 (r:=aq (qS d) d.rights.length 0 ()) (a:=false) (b:=match aq (qT d) d.duties.length 0 ()with| .inl _=>false| .inr _=>true)) (or_congr_left (and_congr_right fun _=>m1))) ?_;simp only[ait,and_false,or_false,and_true];rw[nW,nW];simp only[ai8,akd,hR,hF,aO,aim,decide_eq_true_eq,decide_eq_false_iff_not];constructor
 rintro⟨⟨⟨a1,a2⟩,a3⟩,⟨⟨b1,b2⟩,b3,b4⟩,b5,b6⟩;refine⟨by omega,by omega,b2,b1,b3,b4,fun k hk=>(DB d k h2 h1 (by omega) (by omega)).1 (b5 k hk),fun k hk=>(H5 d k h1 h2).1 (b6 k hk)⟩;rintro⟨a1,a2,a3,b1,b2,b3,b4,b5⟩;refine⟨⟨⟨by omega,by omega⟩,by omega⟩,⟨⟨b1,a3⟩,b2,b3⟩,fun k hk=>(DB d k h2 h1 (by omega) (by omega)).2 (b4 k hk),fun k hk=>(H5 d k h1 h2).2 (b5 k hk)⟩
theorem y9 (d:District):aU d=gA d:=by
 have hs:=sS d;unfold gA;by_cases hl:d.reaches.length<=64/\d.farms.length<=600/\d.crops.length<=32/\d.rights.length<=256/\d.duties.length<=256
 have e1:(((((decide ((d.reaches.length:Int) > 64)) ||(decide ((d.farms.length:Int) > 600))) ||(decide ((d.crops.length:Int) > 32))) ||(decide ((d.rights.length:Int) > 256))) ||(decide ((d.duties.length:Int) > 256)))=false:=by
  grind
 rw[e1];simp only[cond_false];have hv:=Ln d hl.1 hl.2.1 hl.2.2.1;cases h:vM d with
 |true=>grind
 |false=>
  have h0:aU d≠0:=fun e=>by
   grind
  unfold aU at h0 |-;simp only[ko]at h0 |-;grind
 have e1:(((((decide ((d.reaches.length:Int) > 64)) ||(decide ((d.farms.length:Int) > 600))) ||(decide ((d.crops.length:Int) > 32))) ||(decide ((d.rights.length:Int) > 256))) ||(decide ((d.duties.length:Int) > 256)))=true:=by
  grind
 grind [aU,ko]
theorem TP (x:Ratio×Ratio):y3 x:=⟨Eh _,fun _=>Eh _,fun _=>aax _ _⟩
theorem Xl (x:Reach):Ar x:=fun _ _=>TP _
theorem QV (d:District):As d:=fun _=>kU _ _ _ fun _ _ _ _ _ _=>Xl _
theorem H6 (d:District):wi d:=fun _ _=>QV d
def bC (n:Int)(lo:Int)(hi:Int):Bool:=((decide (n>=lo))&&(decide (n<=hi)))
def lU (a0:District)(a1:Judgement):Bool:=letI q0:=i64.wrap ((a0.farms.length:Int) - 1);letI q1:=bC a1.n 1 1073741824;(bif(((((!(bC a1.kind 1 4)) ||(!(bC a1.farm 0 q0))) ||(decide (a1.since<0))) ||(decide (a1.since > a1.to))) ||(decide (a1.to>=a0.hours)))then false else(bif(a1.kind==1)then((a1.other==0)&&(a1.n==0))else(bif(a1.kind==2)then((a1.other==0)&&q1)else(bif(((!(bC a1.other 0 q0)) ||(a1.other==a1.farm)) ||(!q1))then false else((a1.kind==4) ||((a0.farms.getD (Int.toNat a1.other) default).reach==(a0.farms.getD (Int.toNat a1.farm) default).reach))))))
def G9 (a0:District)(a1:Judgement):Prop:=letI q0:=(a0.farms.length:Int);letI q1:=i64.wrap (q0 - 1);(a0.farms.length<=aI->((((((!(bC a1.kind 1 4)) ||(!(bC a1.farm 0 q1))) ||(decide (a1.since<0))) ||(decide (a1.since > a1.to))) ||(decide (a1.to>=a0.hours)))=false->((a1.kind==1)=false->((a1.kind==2)=false->((((!(bC a1.other 0 q1)) ||(a1.other==a1.farm)) ||(!(bC a1.n 1 1073741824)))=false->(((a1.kind==4)=false->(0<=a1.other/\a1.other<q0))/\((a1.kind==4)=false->(0<=a1.farm/\a1.farm<q0))))))))
@[go_sem] def tw (a0:List Judgement)(a1:Judgement)(k_0:Nat)(s_0:Bool):Unit⊕Bool:=letI q0:=a0.getD k_0 default;(bif((q0.of_==0)&&(q0.no==(i64.wrap (a1.of_ - 1))))then(bif(q0.of_==a1.of_)then .inl ()else .inr true)else(bif(q0.of_==a1.of_)then .inl ()else .inr s_0))
def oQ (a0:List Judgement)(a1:Judgement):Bool:=(bif((((((a1.kind !=0) ||(a1.farm !=0)) ||(a1.other !=0)) ||(a1.since !=0)) ||(a1.to !=0)) ||(a1.n !=0))then false else(match aq (tw a0 a1) a0.length 0 false with| .inl x_0_0=>false| .inr s_0=>s_0))
def jz (d:District)(before:List Judgement)(x:Judgement):Bool:=letI q1:=(before.length:Int);letI q0:=before.getD (Int.toNat (i64.wrap (q1 - 1))) default;(bif(((!(bC x.no 0 1048576)) ||(!(bC x.hour 0 d.hours))) ||((decide (q1 > 0))&&((decide (x.no<=q0.no)) ||(decide (x.hour<q0.hour)))))then false else(bif(x.of_==0)then(lU d x)else((decide (x.of_ > 0))&&(oQ before x))))
def G_ (d:District)(before:List Judgement)(x:Judgement):Prop:=letI q1:=(before.length:Int);letI q0:=i64.wrap (q1 - 1);letI q2:=before.getD (Int.toNat q0) default;letI q3:= !(bC x.hour 0 d.hours);letI q4:= !(bC x.no 0 1048576);letI q5:=decide (q1 > 0);letI q6:=decide (x.no<=q2.no);(before.length<=aI->(((q4||q3)=false->(q5=true->(0<=q0/\q0<q1)))/\(((q4||q3)=false->(q5=true->(q6=false->(0<=q0/\q0<q1))))/\(((q4||q3) ||(q5&&(q6||(decide (x.hour<q2.hour)))))=false->((x.of_==0)=true->(G9 d x))))))
@[go_sem] def jG (d:District)(j:List Judgement)(k_0:Nat)(s_0:Unit):Unit⊕Unit:=(bif(!(jz d ((j.take k_0).drop 0) (j.getD k_0 default)))then .inl ()else .inr ())
def CZ (d:District)(j:List Judgement)(k_0:Nat)(s_0:Unit):Prop:=(j.length<=aI->((0<=0/\0<=(k_0:Int)/\(k_0:Int)<=(j.length:Int))/\(G_ d ((j.take k_0).drop 0) (j.getD k_0 default))))
def iL (d:District)(j:List Judgement):Int:=(bif((gA d) !=0)then(gA d)else(bif(decide ((j.length:Int) > 64))then 2 else(match aq (jG d j) j.length 0 ()with| .inl x_0_0=>530| .inr s_0=>0)))
def wm (d:District)(j:List Judgement):Prop:=((wi d)/\(((gA d) !=0)=false->(j.length<=aI->((decide ((j.length:Int) > 64))=false->okI (jG d j) (CZ d j) j.length 0 ()))))
@[go_sem] def uL (j:List Judgement)(x:Judgement)(hour:Int)(k_0:Nat)(s_0:Unit):Unit⊕Unit:=(bif(((j.getD k_0 default).of_==(i64.wrap (x.no+1)))&&(decide ((j.getD k_0 default).hour<=hour)))then .inl ()else .inr ())
def vQ (j:List Judgement)(x:Judgement)(hour:Int):Bool:=(match aq (uL j x hour) j.length 0 ()with| .inl x_0_0=>true| .inr s_0=>false)
def cU (j:List Judgement)(x:Judgement)(hour:Int):Bool:=(((((x.of_==0)&&(decide (x.hour<=hour)))&&(decide (x.since<=hour)))&&(decide (hour<=x.to)))&&(!(vQ j x hour)))
end Go.Sx
end
section
namespace Go.Sx
open Go.RowKit
def QW (k:Tag)(i:Nat)(t:List (Nat×SV))(h:List Ob):SV->St
 | .v (.slice none 0 0) =>⟨(i,.os h.length)::t,h++[.row k []]⟩|_=>⟨t,h⟩
def TQ (k:Tag)(id off:Nat)(t:List (Nat×SV))(h:List Ob)(l:List SV):Option SV->St
 |some (.v (.slice none 0 0)) =>⟨t,bM h id (.cells (l.set off (.os h.length)))++[.row k []]⟩|_=>⟨t,h⟩
def Xm (k:Tag)(id off:Nat)(t:List (Nat×SV))(h:List Ob):Ob->St
 | .cells l=>TQ k id off t h l (nth l off)|_=>⟨t,h⟩
def TR (k:Tag)(t:List (Nat×SV))(h:List Ob):SV->St
 | .ptr id off=>Xm k id off t h (ar h id)|_=>⟨t,h⟩
def Lo (k:Tag):ResultVar->List (Nat×SV)->List Ob->St
 | .tmp i,t,h=>QW k i t h (lk i t)| .cell i _,t,h=>TR k t h (lk i t)
def F7:List (ResultVar×Tag)->St->St
 | [],st=>st|x::r,st=>F7 r (Lo x.2 x.1 st.t st.h)
theorem Xn (k:Tag)(r:ResultVar)(st:St):NilS st (Lo k r st.t st.h):=by
 obtain⟨t,h⟩:=st;cases r with
 |tmp i=>
  show NilS _ (QW k i t h (lk i t));unfold QW;split
  rename_i e;exact .slot _ (.refl _) e (.inl ⟨_,rfl⟩);exact .refl _
 |cell i _=>
  show NilS _ (TR k t h (lk i t));unfold TR;split
  unfold Xm;split
  rename_i e;unfold TQ;split
  rename_i e2;exact .cell _ (.refl _) e (by grind [ip]) (.inl ⟨_,rfl⟩);exact .refl _;exact .refl _;exact .refl _
theorem NilS.trans {a b c:St}(h1:NilS a b)(h2:NilS b c):NilS a c:=by
 induction h2 with
 |refl=>exact h1|cell o _ e1 e2 ho ih=>exact .cell o ih e1 e2 ho|slot o _ e1 ho ih=>exact .slot o ih e1 ho|slotE k _ e1 ih=>exact .slotE k ih e1
theorem aaA (l:List (ResultVar×Tag)):∀ st,NilS st (F7 l st):=by
 induction l with
 |nil=>exact fun st=>.refl _
 |cons x r ih=>exact fun st=>(Xn x.2 x.1 st).trans (ih _)
def O6 (l:List (ResultVar×Tag))(rs:List ResultVar)(ts:Tis)(post:SV->Prop)(pp:Value->Prop):Ex->St->Prop
 | .exit _,_=>False| .normal,st=>fh post (AI true rs ts (F7 l st))| .ret,st=>fh post (AI true rs ts (F7 l st))| .pan x,_=>pp x
section
variable {l:List (ResultVar×Tag)}{rs:List ResultVar}{ts:Tis}{post:SV->Prop}{pp:Value->Prop}{st:St}{k:Tag}{i id off:Nat}{t:List (Nat×SV)}{h:List Ob}{m:List SV}
@[go_sem] theorem acP:O6 l rs ts post pp .ret st=fh post (AI true rs ts (F7 l st)):=(rfl)
@[go_sem] theorem Xo:O6 l rs ts post pp .normal st=fh post (AI true rs ts (F7 l st)):=(rfl)
@[go_sem] theorem acQ {x:Value}:O6 l rs ts post pp (.pan x) st=pp x:=(rfl)
@[go_sem] theorem aeL:F7 [] st=st:=(rfl)
@[go_sem] theorem acR {r:ResultVar}:F7 ((r,k)::l) ⟨t,h⟩=F7 l (Lo k r t h):=(rfl)
@[go_sem] theorem acS:Lo k (.tmp i) t h=QW k i t h (lk i t):=(rfl)
@[go_sem] theorem aaB {ty:TypeId}:Lo k (.cell i ty) t h=TR k t h (lk i t):=(rfl)
@[go_sem] theorem aeM:QW k i t h (.v (.slice none 0 0))=⟨(i,.os h.length)::t,h++[.row k []]⟩:=(rfl)
@[go_sem] theorem ag1:QW k i t h (.os id)=⟨t,h⟩:=(rfl)
@[go_sem] theorem aeN:TR k t h (.ptr id off)=Xm k id off t h (ar h id):=(rfl)
@[go_sem] theorem aaC:Xm k id off t h (.cells m)=TQ k id off t h m (nth m off):=(rfl)
@[go_sem] theorem aeO:TQ k id off t h m (some (.v (.slice none 0 0)))=⟨t,bM h id (.cells (m.set off (.os h.length)))++[.row k []]⟩:=(rfl)
@[go_sem] theorem ag2:TQ k id off t h m (some (.os i))=⟨t,h⟩:=(rfl)
attribute [go_sem] List.set_cons_zero
end
section
variable {P:Program}{ts:Tis}{G:Cons}
theorem F8 (l:List (ResultVar×Tag)) (hm:P.follows .mixedOrders=true) (hts:ts.ok P) (hG:ConsOk P G) {f:FuncId} {fn:Func} {c:Code} (hf:P.funcs[f]? =some fn) (hb:fn.body=some c) (hname:(fn.name== "runtime.NumGoroutine")=false)
  (hc:cD fn.ntmps c=true) {C:List SV->Option Con}
  (h:∀ l0 con,C l0=some con->aw con->l0.length<=fn.ntmps/\∃ L,ap P none fn.ntmps L c/\exec ts G L c ⟨nN 0 l0,[]⟩ (O6 l fn.results.toList ts (dw con) (nQ con))):FnOk P f C:=by
 refine⟨fun l con _ args w=>?_,fun l0 con hcon hpre F w vs hF hvs=>?_⟩;simp_all [callFunc];obtain⟨hlen,L,hl,hx⟩:=h l0 con hcon hpre;refine pW (n:=0) (callsIn_of_wp_marks hf hb trivial ?_);have hr:StRel F { w:=w,own:=cF} fn.ntmps cF ⟨nN 0 l0,[]⟩ { tmps:=vs++Array.replicate (fn.ntmps - vs.size) undef,defers:=[]} w:=
  ⟨by have:=hvs.1;simp;omega,Dfr.nil,xL hF,Fr.refl _,fun t=>nR hvs _ t⟩
 refine wpIn_mono (oK hm hts hG c hc hl F _ _ hx cF _ w hr) ?_;intro e a' w' hq;have key:∀ F1 own st,(∀ b,F b->F1 b)->StRel F1 { w:=w,own:=cF} fn.ntmps own st a' w'->fh (dw con) (AI true fn.results.toList ts (F7 l st))->LeavesInM (rd none) 0 P fn a'.tmps
   (fun e w'=>(∃ s u own',dw con s/\e=.returned u/\Handed F w own' w' s u/\Below w.heap.size w w')\/(∃ x,nQ con x/\e=.panicked [{ v:=x,recovered:=false}]/\Below w.heap.size w w')) a'.defers .returning w':=by
  intro F1 own0' st0 hF1 hst0 hdone;obtain⟨own,hst⟩:=(aaA l st0).rel hst0;generalize F7 l st0=st at hst hdone;refine j_ hst (by simp) fun w2 hst2=>?_;have hst3:=hst2.less hF1 rfl;unfold AI at hdone;cases hs:mz (k9 ts st fn.results.toList)with
  |none=>
   simp only[cond_true,Qd]at hdone;rw[hs]at hdone;exact hdone.elim
  |some s=>
   obtain⟨u,e1,e2⟩:=xK (P:=P) hts hst3 hs;refine⟨u,e1,.inl ?_⟩;simp only[cond_true,Qd]at hdone;rw[hs]at hdone;change fh (dw con) (Do st.h s)at hdone;cases hg:Do st.h s with
   |none=>rw[hg]at hdone;exact hdone.elim
   |some s2=>
    rw[hg]at hdone;obtain⟨own',hh⟩:=Ov hst3 e2 hg;exact⟨_,u,own',hdone,rfl,hh,qH hst3.fr⟩
 cases e with
 |normal=>obtain⟨F1,own,st,h0,h1,h2⟩:=hq;exact key F1 own st h0 h1 h2
 |ret=>obtain⟨F1,own,st,h0,h1,h2⟩:=hq;exact key F1 own st h0 h1 h2
 |exit id=>obtain⟨F1,own,st,h0,h1,h2⟩:=hq;exact h2.elim
 |panic ch=>
  obtain⟨x,F1,own,st,h0,h1,h2,rfl⟩:=hq;exact j_ h1 (by simp) fun w2 hst2=>.inr ⟨x,h2,rfl,qH hst2.fr⟩
 |_=>exact hq.elim
end
end Go.Sx
end
