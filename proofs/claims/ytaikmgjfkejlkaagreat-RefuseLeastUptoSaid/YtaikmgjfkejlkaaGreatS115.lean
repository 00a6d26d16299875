/- Part of the proof that the law RefuseLeast returns true and leaves its arguments as they were, for all arguments of bulk at most 1048576 (the Upto form). -/
import Derived.Test.YtaikmgjfkejlkaaGreatS114
import Derived.Test.YtaikmgjfkejlkaaGreatS113
import Derived.Test.YtaikmgjfkejlkaaGreatS107
import Derived.Test.YtaikmgjfkejlkaaGreatS108
import Derived.Test.YtaikmgjfkejlkaaGreatS106
import Derived.Deep.Slices
import Derived.OpenShut
import Derived.ChangeSame
import Derived.WideKeyArgs
import Derived.Below
import Derived.Test.YtaikmgjfkejlkaaGreatRows
set_option linter.all false
set_option maxHeartbeats 4000000
set_option maxRecDepth 100000
section
namespace Go.Sx
open Go.Proofs
theorem xE:aT []=[]:=
 aot.1 (Nat.le_zero.1 (Sx.outs (c:=[]) ⟨by simp,λa E=>(by cases E)⟩).len)
variable {d:ah}{c:List Claim}
theorem Xl(h:aql d c):aql d []:=
 ⟨(mc d []).2 ⟨((mc d c).1 h.chk).1,ame _,λa E=>(by cases E),List.Pairwise.nil⟩,h.wide,λx O=>by grind [xE]⟩
theorem Xm(h:aql d []):(bq d []).2.1=true:=by
 have E:=h.nar;rw[xE]at E;have O:=E.good.right;have key:∀ L,di (bR d) L (([]:List Order),([]:List ((Int×Int)×Int)))=.inr ([],[]):=λL=>by
  induction L with
  |nil=>rfl|cons z L U=>exact U
 have Y:srt aO []=[]:=List.perm_nil.1 (AO []);have W:aR d []=([],true,0):=by
  unfold aR;rw[(zy d []).2 E];simp_all [aj]
 have V:CX d []=[]:=To.2 ⟨λt i _ hi=>by have:=(FM _ _).1 (O.reach i hi);simp only[gk,rch,alI];omega,λt i _ hi=>by have:=(FM _ _).1 (O.reach i hi);simp only[gk,rch,alI];omega,O.arl⟩;have X:=(Jn (d:=d) (l:=[]) E.good.aqp).1;unfold bq cw;rw[Cj h,xE,W,X,V];rfl
theorem N5(h:(bq d c).2.1=true):(bq d c).2.2=0:=by
 simp_all [bq]
theorem G_ {α ρ:Type}{step:α->Unit->ρ⊕Unit}(E:α->Bool)(f:α->ρ)(h:∀ z,step z ()=bif E z then .inl (f z)else .inr ()):∀ L,(∃ z∈L,E z=true)->∃ A z B,L=A++z::B/\(∀ y∈A,E y=false)/\E z=true/\di step L ()=.inl (f z)
 | [],⟨z,O,_⟩ =>by cases O
 |x::L,⟨z,O,V⟩ =>by
  rw[di,h];cases U:E x with
  |true=>exact⟨[],x,L,rfl,λy hy=>(by cases hy),U,rfl⟩
  |false=>
   obtain⟨A,w,B,e,h1,h2,W⟩:=G_ E f h L ⟨z,by
    grind,V⟩
   grind
abbrev flt (c:List Claim)(z:List Int):List Claim:=c.filter λx=>!bA x z
abbrev Qe (d:ah)(c:List Claim):Bool:=(bq d c).2.1
abbrev rts (d:ah)(c:List Claim):List Int:=aq { d:=d,c:=c}
theorem ZF (d:ah)(c:List Claim):flt c (rts d c)=c:=by
 refine an7.2 λx E=>?_;rw[Ly,ao2,amx];exact⟨x.right,G9 (s:= { d:=d,c:=c}) E,by simp⟩
section
variable {d:ah}{l:List bh}{fr to k:Int}
theorem RK (O:Opn d l fr to k)(E:Qe d (av d l fr to k).1=false):∃ A z B,u4 (rts d (av d l fr to k).1)=A++z::B/\(∀ y∈A,Qe d (flt (av d l fr to k).1 y)=true)/\Qe d (flt (av d l fr to k).1 z)=false/\di (dF d l fr to k) (ef (rts d (av d l fr to k).1)) ()=.inl (d.name,d.hours,d.apa.cap,d.apa.start,d.reaches,d.l5,d.apg,d.ai,d.apb,d.apQ,flt (av d l fr to k).1 z,z):=by
 have hc:=zD d l fr to k;have U:(rts d (av d l fr to k).1).length<=10:=by have:=O.ten;grind
 obtain⟨A,z,B,h1,h2,V,W⟩:=G_ (step:=dF d l fr to k) (λz=>!Qe d (flt (av d l fr to k).1 z)) (λz=>(d.name,d.hours,d.apa.cap,d.apa.start,d.reaches,d.l5,d.apg,d.ai,d.apb,d.apQ,flt (av d l fr to k).1 z,z)) (λz=>by
  simp_all [dF,GZ,zp]) (u4 (rts d (av d l fr to k).1)) ⟨rts d (av d l fr to k).1,G7.2 (List.Sublist.refl _),by rw[ZF,E];rfl⟩
 rw[Lr (show(rts d (av d l fr to k).1).length<=900 by omega)];grind
theorem Xn (d:ah)(l:List bh)(fr to k:Int):mD d l fr to k:=by
 refine⟨aaI d l fr to k,λY=>?_⟩;have E:=(Lp d l fr to k).1 (by grind);have hc:=zD d l fr to k;have X:(aq { d:=d,c:=(av d l fr to k).1}).length<=10:=by have:=E.ten;omega
 rw[GZ E];dsimp only;refine⟨D0 _ _,λV=>⟨zF _ hc,adz (by omega),DR _ _ λz U _=>?_,?_⟩⟩;rw[Lr (by omega)]at U;have:=Js U;unfold kJ;rw[GZ E];exact⟨(zp _ _ hc).1,D0 _ _,λ_=>by unfold dI;omega⟩;obtain⟨A,z,B,_,_,_,e⟩:=RK E V;refine⟨λw hw=>(by grind),λw hw=>?_⟩;rw[e]at hw;cases hw;have O:=Xb (s:= { d:=d,c:=flt (av d l fr to k).1 z}) (GO E.ask.chk) E.ask.wide λx W=>G0 E.ask x (ang.1 W).1;exact⟨GP _ _,O.1,Qa (s:= { d:=d,c:=flt (av d l fr to k).1 z}) O.2⟩
theorem RL (g:(((aU d l fr to k).2.2 !=0) ||(!(aU d l fr to k).2.1))=false):Opn d l fr to k/\∃ A B,u4 (rts d (av d l fr to k).1)=A++(aU d l fr to k).1.ai::B/\(∀ y∈A,Qe d (flt (av d l fr to k).1 y)=true)/\Qe d (flt (av d l fr to k).1 (aU d l fr to k).1.ai)=false:=by
 unfold aU at g |-;by_cases O:(aD d l fr to k).2=0
 have E:=(Lp d l fr to k).1 O;rw[GZ E]at g |-;simp only[bne_self_eq_false,cond_false]at g |-;cases U:(bq d (av d l fr to k).1).2.1 with
 |true=>grind
 |false=>
  obtain⟨A,z,B,h1,h2,V,e⟩:=RK E U;grind
 grind
end
theorem Xo:r8:=by
 refine⟨Xn _ _ _ _ _,D1 _ _ _ _ _ _,D1 _ _ _ _ _ _,D1 _ _ _ _ _ _,D1 _ _ _ _ _ _,⟨by decide,by decide⟩,Xn _ _ _ _ _,λ_ _=>⟨λh=>?_,λh=>?_,λh=>?_⟩⟩;all_goals
  simp only[alG,beq_iff_eq]at h;omega
end Go.Sx
end
section
namespace Go.Sx
open Go.RowKit
section
variable {P:Program}{ts:Tis}{G:Cons}
end
def Qf (n0:Nat)(h:List Ob):SV->SV
 | .agg l=>.agg (l.map (C9 n0 h))|s=>C9 n0 h s
def N6 (n0:Nat)(h:List Ob):SV->SV
 | .tup l=>.tup (l.map (Qf n0 h))|s=>Qf n0 h s
section
variable {F:Nat->Prop}{own:Own}{w:World}{n0:Nat}{h:List Ob}
theorem N7 (E:Hp F own w h)(s:SV)(v:Value)(O:Rel F own w s v):Rel F (Kp n0 own) w (Qf n0 h s) v:=by
 cases s with
 |agg l=>
  cases O with
  |agg W h1=>
   refine .agg (by grind) λj s V=>?_;obtain⟨x,U,rfl⟩:=k9 V;exact MQ E x _ (h1 j x U)
 |_=>exact MQ E _ _ O
theorem Xp (E:Hp F own w h)(s:SV)(v:Value)(O:Rel F own w s v):Rel F (Kp n0 own) w (N6 n0 h s) v:=by
 cases s with
 |tup l=>
  cases O with
  |tup W h1=>
   refine .tup (by grind) λj s V=>?_;obtain⟨x,U,rfl⟩:=k9 V;exact N7 E x _ (h1 j x U)
 |_=>exact N7 E _ _ O
@[go_sem] def aiv:= @N6.eq_1
def aiw {l:List SV}:N6 n0 h (.agg l)=.agg (l.map (C9 n0 h)):=(rfl)
def alD {x:Value}:N6 n0 h (.v x)=.v x:=(rfl)
attribute[go_sem]aiw alD
@[go_sem] def aix:= @Qf.eq_1
def alE {x:Value}:Qf n0 h (.v x)=.v x:=(rfl)
def akl {k:Tag}{l:List k.T}:Qf n0 h (.rs k l)=.rs k l:=(rfl)
def akm {id:Nat}:Qf n0 h (.os id)=VN n0 id (ap h id):=(rfl)
attribute[go_sem]alE akl akm
end
def ZG (pks:List Pk)(n0:Nat)(S:SV)(H:List Ob)(h:List Ob):Option SV->Prop
 |some s=>S=wX pks (N6 n0 h s)/\oo ⟨[],H⟩ n0 ⟨[],h⟩|none=>False
def aaL (pks:List Pk)(n0:Nat)(rs:List ResultVar)(ts:Tis)(S:SV)(H:List Ob)(id:Nat)(st:St):Option SV->Prop
 |some s=>SG (ap st.h id)/\nP st.h=false/\ZG pks n0 S H (cm st.h id (.cells [s])) (rj (pi ts ⟨st.t,cm st.h id (.cells [s])⟩ rs))|none=>False
def Xq (RC:Value->Option SV)(pks:List Pk)(n0:Nat)(rs:List ResultVar)(ts:Tis)(S:SV)(H:List Ob)(id:Nat):Ex->St->Prop
 | .exit _,_=>False| .normal,st=>ZG pks n0 S H st.h (rj (pi ts st rs))| .ret,st=>ZG pks n0 S H st.h (rj (pi ts st rs))| .pan x,st=>aaL pks n0 rs ts S H id st (RC x)
section
variable {RC:Value->Option SV}{pks:List Pk}{n0:Nat}{rs:List ResultVar}{ts:Tis}{S s:SV}{H h:List Ob}{id:Nat}{st:St}{x:Value}
@[go_sem] def afJ:= @ZG.eq_1
@[go_sem] def adC:= @aaL.eq_1
@[go_sem] def ZH:= @Xq.eq_2
@[go_sem] def afK:= @Xq.eq_3
@[go_sem] def afL:= @Xq.eq_4
end
section
variable {P:Program}{ts:Tis}{G:Cons}
end
def aaM (h:List Ob):Option Con->Option apd
 |some (.det p s) =>some (ft p (N6 0 (aS 3 s) (iE 3 0 s)) (h.map λ_=>.dead))
 |_=>none
def aiy (C:List SV->Option Con)(l:List SV)(h:List Ob):Option apd:=aaM h (C (l.map (fD h 6)))
@[go_sem] def aiz:= @aiy.eq_1
@[go_sem] def afM:= @aaM.eq_1
section
variable {P:Program}{F:Nat->Prop}{own:Own}{w w':World}
end
def Tx (n0:Nat)(h:List Ob):SV->SV
 | .fn f a b=>bif c8 3 (.fn f a b)then .fn f a b else .any|s=>N6 n0 h s
@[go_sem] def akn:= @Tx.eq_1
variable {n0:Nat}{h:List Ob}
def ako{k:Tag}{l:List k.T}:Tx n0 h (.rs k l)=.rs k l:=(rfl)
def aiA{l:List SV}:Tx n0 h (.tup l)=N6 n0 h (.tup l):=(rfl)
attribute[go_sem]ako aiA
theorem Xr{F:Nat->Prop}{own:Own}{w:World}(O:Hp F own w h)(s:SV)(v:Value)(E:Rel F own w s v):Rel F (Kp n0 own) w (Tx n0 h s) v:=by
 cases s with
 |fn f a b=>
  simp only[Tx];cases V:c8 3 (.fn f a b)with
  |false=>exact .any _
  |true=>exact E.aph (gb 3 _ V) λb U=>wZ U
 |_=>exact Xp O _ _ E
def Xs (h:List Ob):Option Con->Option apd
 |some (.det p s) =>some (ft p (Tx 0 (aS 3 s) (iE 3 0 s)) (h.map λ_=>.dead))
 |_=>none
def RM (C:List SV->Option Con)(l:List SV)(h:List Ob):Option apd:=Xs h (C (l.map (fD h 6)))
@[go_sem] def aiB:= @RM.eq_1
@[go_sem] def afN:= @Xs.eq_1
section
variable {P:Program}{F:Nat->Prop}{own:Own}{w w':World}
theorem zs.ari {f:FuncId}{C:List SV->Option Con}(O:zs P f C):ape P f (RM C) where
 enter:=λl h c e=>by
  unfold RM at e;cases hc:C (l.map (fD h 6))with
  |none=>rw[hc]at e;cases e|some c'=>exact O.enter _ c' hc
 calls:=λl h c e hp F own w vs U hr=>by
  unfold RM at e;cases hc:C (l.map (fD h 6))with
  |none=>rw[hc]at e;cases e
  |some c'=>
   rw[hc]at e;cases c' with
   |det p s=>
    simp only[Xs,alK]at e;subst e;have n0:∀ {F':Nat->Prop} {w1:World},(∀ b,F' b->b<w1.heap.size)->Hp F' dv w1 []:=λO=>⟨(λid hd h=>by cases h),O,(λid hd b h=>by cases h),(λi j hi Y b h=>by cases h),(λid hd b h=>by cases h),(λid h=>by cases h)⟩;have hE:∀ {id:Nat} {hd:Hd},VO own id=some hd->hd.bs=[]/\id<h.length:=λ{id hd} h=>by
     unfold VO at h;cases ho:own id with
     |none=>grind|some x=>rw[ho]at h;cases h;exact⟨rfl,U.dom id x ho⟩
    refine(O.calls _ _ hc hp F w vs U.ao1 ⟨by simpa using hr.1,λj s Y=>?_⟩).mono ?_;obtain⟨x,X,rfl⟩:=k9 Y;exact xL U 6 x _ (hr.2 j x X);rintro e w' (⟨s',u,bn,h1,h2,h3,E⟩ | ⟨x,X,_⟩);cases h1;obtain⟨A1,q1,q2,q3,q4⟩:=Bn (n0 U.ao1) (.inl λb=>⟨λh=>.inl h,λh=>h.elim id λ⟨_,_,h,_⟩ =>by cases h⟩) E h3;have q5:=Xr (n0:=0) q1 _ _ q3;refine⟨(),VO own,trivial,⟨u,h2,?_⟩,?_,?_,by simp⟩;refine q5.carry ⟨λid hd h=>by simp[Kp]at h,λb _ V=>⟨YT λO=>V (.inl O),rfl⟩⟩;refine⟨λid hd h=>by grind,λb V=>alT (U.ao1 b V) E.size,λid hd b h W=>?_,λi j hi Y b h _ W=>?_,λid hd b h W=>?_,λid hd=>?_⟩;grind
    grind
    grind
    grind [tL,dx]
    refine⟨λid hd h=>?_,λid hd b h W=>?_,E.os,E.tape,E.output,E.size,λk hk=>E.block k hk.1⟩;exact⟨{ hd with bs:=[]},by show(own id).map _=_;grind,rfl,rfl,rfl⟩;grind
    cases X
   |_=>cases e
end
end Go.Sx
end
section
namespace Go.Sx
open Go.Proofs
open IntKind (i64)
@[go_sem] def qe (n:Int)(l_:List Int)(Q1:Nat)(ly:Unit):Unit⊕Unit:=(bif((l_.getD Q1 0) ==n)then .inl ()else .inr ())
def gJ (n:Int)(l_:List Int):Bool:=(match aj (qe n l_) l_.length 0 ()with| .inl gl=>true| .inr ly=>false)
@[go_sem] noncomputable def DG:List SV->Option Con:=(pI λn=>(pXR .int λl_=>(pE (.det True (.v (.bool (gJ n l_)))))))
theorem u6:zs Tryz.prog 58 DG:=by
 have hG:=mG C1 C1;refine fN hG Tryz.f58 [.o] (az λn=>(vr λE=>(am (λX=>?_))));dsimp only[an]at X;refine⟨Y2 rfl,(λid st=>bif Nat.beq id 0 then some (LCR (ρ:=Unit) (σ:=Unit) 0 [] [] (λO U=>⟨[(0,.v (.int .i64 n)),(6,.rs .int E),(7,.v (.int .i64 (E.length:Int))),(8,.v (.int .i64 (O:Int)))],[]⟩) (qe n E) pT E.length () (E.length<=aH) (λ_=>.ret) (λV=>⟨[(3,.v (.bool true))],[]⟩) st)else none),?_,?_⟩;unfold ae Tryz.f58;simp only[ak,true_and,and_true];refine bL mixed aB hG kr (λ_=>rfl) (E.length:Int) rfl fj (λhb0 O U W _ hw hc=>⟨L0,ag _,?_⟩) (λhb0 U hc=>?_);exact bB (jl []);exact bC (jl []);unfold ae Tryz.f58;try unfold gJ
 exact zq2
def iu (n:Int)(aqk:Int):Bool:=(n !=aqk)
@[go_sem] def wy:List SV->Option Con:=(pI λn=>(pX .int λaqk=>(pE (.det True (.v (.bool (iu n aqk)))))))
theorem vV:zs Tryz.prog 21 wy:=by
 have hG:=mG C1 C1;refine fN hG Tryz.f21 [.o] (az λn=>(fO λE=>(am (λO=>?_))));dsimp only[an]at O;refine⟨Y2 rfl,L0,ag _,?_⟩;unfold ae Tryz.f21;try unfold iu
 exact zq2
@[go_sem] def yV:List SV->Option Con:=(pR .int λl_=>(pE (.det True (.fn 58 [] [.ep [.rs .int l_] 0]))))
theorem Ha:zs Tryz.prog 20 yV:=by
 have hG:=mG C1 C1;refine fN hG Tryz.f20 [.o] (bD λE=>(am (λO=>?_)));refine⟨Y2 rfl,L0,ag _,?_⟩;unfold ae Tryz.f20;simp only[go_sem,oA,oB,Nat.reduceBEq,Nat.reduceLeDiff,Nat.reduceAdd,Nat.reduceSub,Nat.reduceMul]
def pVl (k:Value->List SV->Option Con):List SV->Option Con
 | .v x::r=>bif LU x then k x r else none|_=>none
@[go_sem] def aiC:= @pVl.eq_1
variable {k:Value->List SV->Option Con}
@[go_sem]def alF{t:Tag}{l:List t.T}{r:List SV}:pVl k (.rs t l::r)=none:=(rfl)
theorem ZI{G:List SV->Con->Prop}(h:∀ x,LU x=true->∀ l c,k x l=some c->G (.v x::l) c):∀ l c,pVl k l=some c->G l c:=λl c hc=>by
 unfold pVl at hc;split at hc
 rename_i x r;cases E:LU x with
 |true=>rw[E]at hc;exact h _ E _ _ hc|false=>rw[E]at hc;cases hc
 cases hc
@[go_sem] def N8:List SV->Option Con:=(pVl λx=>(pE (.det True (.fn 58 [] [.ep [.v x] 0]))))
theorem Tz:zs Tryz.prog 20 N8:=by
 have hG:=mG C1 C1;refine fN hG Tryz.f20 [.o] (ZI λx E=>(am (λO=>?_)));cases x <;>first|(cases E;done) |(
  refine⟨Y2 rfl,L0,ag _,?_⟩;unfold ae Tryz.f20;simp only[go_sem,oA,oB,Nat.reduceBEq,Nat.reduceLeDiff,Nat.reduceAdd,Nat.reduceSub,Nat.reduceMul])
@[go_sem] def Hb:List SV->Option Con:=λl=>orC (N8 l) (yV l)
def wg:zs Tryz.prog 20 Hb:=zs.or Tz Ha
@[go_sem] def qy (c:List Claim)(l_:List Int)(Q1:Nat)(ly:List Claim):Empty⊕(List Claim):=(bif(gJ ((c.getD Q1 default).right) l_)then .inr (ly++([(c.getD Q1 default)]))else .inr ly)
def nM (c:List Claim)(l_:List Int)(Q1:Nat)(ly:List Claim):Prop:=((gJ ((c.getD Q1 default).right) l_)=true->((ly++([(c.getD Q1 default)])).length*40<=dI))
def jH (c:List Claim)(l_:List Int):List Claim:=(match aj (qy c l_) c.length 0 ([])with| .inl x=>x.elim| .inr ly=>ly)
def pf (c:List Claim)(l_:List Int):Prop:=(c.length<=aH->okI (qy c l_) (nM c l_) c.length 0 ([]))
@[go_sem] noncomputable def A3:List SV->Option Con:=(pR .x6 λc=>(pFn 58 (pXR .int λl_=>(pE ((pE (.det (pf c l_) (.nw .x6 (jH c l_)))))))))
theorem Ig:zs Tryz.prog 19 A3:=by
 have hG:=mG (cp u6 C1) C1;refine fW hG Tryz.f19 [(.tmp 4,.x6)] (bD λc=>(mr (vr λV=>(am ((am (λX=>?_)))))));dsimp only[an]at X;unfold pf at X;refine⟨Y2 rfl,(λid st=>bif Nat.beq id 0 then some (LCR (ρ:=Empty) (σ:=(List Claim)) 0 [.slot 4 (.row .x6 ([]))] [0] (λU E=>⟨[(1,.fn 58 [] [.ep [.rs .int V] 0]),(4,.os 0),(7,.rs .x6 c),(8,.v (.int .i64 (c.length:Int))),(9,.v (.int .i64 (U:Int)))],[.row .x6 E]⟩) (qy c V) (nM c V) c.length ([]) (c.length<=aH) ((·.elim)) ((·.elim)) st)else none),?_,?_⟩;unfold ae Tryz.f19;simp only[ak,true_and,and_true];refine bL mixed aB hG kr (λ_=>rfl) (c.length:Int) rfl fj (λhb0 U E W O hw hc=>⟨L0,ag _,?_⟩) (λhb0 E hc=>?_);unfold nM at O;try simp only[hw,alI]at O
 exact mX (jl [3]) (jl [0]);exact mY (jl [3]) (jl [0]);unfold ae Tryz.f19;try unfold jH
 exact zq2
@[go_sem] def qA (c:List Claim)(aqk:Int)(Q1:Nat)(ly:List Claim):Empty⊕(List Claim):=(bif(iu ((c.getD Q1 default).right) aqk)then .inr (ly++([(c.getD Q1 default)]))else .inr ly)
def nN (c:List Claim)(aqk:Int)(Q1:Nat)(ly:List Claim):Prop:=((iu ((c.getD Q1 default).right) aqk)=true->((ly++([(c.getD Q1 default)])).length*40<=dI))
def qf (c:List Claim)(aqk:Int):List Claim:=(match aj (qA c aqk) c.length 0 ([])with| .inl x=>x.elim| .inr ly=>ly)
def sa (c:List Claim)(aqk:Int):Prop:=(c.length<=aH->okI (qA c aqk) (nN c aqk) c.length 0 ([]))
@[go_sem] def A4:List SV->Option Con:=(pR .x6 λc=>(pFn 21 (pX .int λaqk=>(pE ((pE (.det (sa c aqk) (.nw .x6 (qf c aqk)))))))))
theorem Ih:zs Tryz.prog 19 A4:=by
 have hG:=mG (cp vV C1) C1;refine fW hG Tryz.f19 [(.tmp 4,.x6)] (bD λc=>(mr (fO λE=>(am ((am (λX=>?_)))))));dsimp only[an]at X;unfold sa at X;refine⟨Y2 rfl,(λid st=>bif Nat.beq id 0 then some (LCR (ρ:=Empty) (σ:=(List Claim)) 0 [.slot 4 (.row .x6 ([]))] [0] (λV O=>⟨[(1,.fn 21 [] [.ep [.v (.int .i64 E)] 0]),(4,.os 0),(7,.rs .x6 c),(8,.v (.int .i64 (c.length:Int))),(9,.v (.int .i64 (V:Int)))],[.row .x6 O]⟩) (qA c E) (nN c E) c.length ([]) (c.length<=aH) ((·.elim)) ((·.elim)) st)else none),?_,?_⟩;unfold ae Tryz.f19;simp only[ak,true_and,and_true];refine bL mixed aB hG kr (λ_=>rfl) (c.length:Int) rfl fj (λhb0 V O W U hw hc=>⟨L0,ag _,?_⟩) (λhb0 O hc=>?_);unfold nN at U;try simp only[hw,alI]at U
 exact mX (jl [3]) (jl [0]);exact mY (jl [3]) (jl [0]);unfold ae Tryz.f19;try unfold qf
 exact zq2
@[go_sem] noncomputable def C0:List SV->Option Con:=λl=>(orC (A3 l) (A4 l))
def Lz:zs Tryz.prog 19 C0:=(zs.or Ig Ih)
@[go_sem] def fJ (a0:ah)(a1:List bh)(a2:Int)(a3:Int)(a4:Int)(a6:Int)(Q1:Nat)(ly:List Int):Empty⊕(List Int):=letI q0:=((av a0 a1 a2 a3 a4).1).getD Q1 default;(bif(((!(gJ (q0.right) ly))&&((XK .u16 (lp .u16 a6 (Int.tmod (q0.right) 16)) 1) ==1))&&(decide ((i64.wrap ((ly.length:Int)+1)) < ((((aU a0 a1 a2 a3 a4).1).ai).length:Int))))then .inr (ly++([q0.right]))else .inr ly)
def kx (a0:ah)(a1:List bh)(a2:Int)(a3:Int)(a4:Int)(a6:Int)(Q1:Nat)(ly:List Int):Prop:=letI q0:=((av a0 a1 a2 a3 a4).1).getD Q1 default;letI q1:= !(gJ (q0.right) ly);letI q2:=Int.tmod (q0.right) 16;((q1=true->0<=q2)/\(((q1&&((XK .u16 (lp .u16 a6 q2) 1) ==1))&&(decide ((i64.wrap ((ly.length:Int)+1)) < ((((aU a0 a1 a2 a3 a4).1).ai).length:Int))))=true->((ly++([q0.right])).length*8<=dI)))
def jy (a0:ah)(a1:List bh)(a2:Int)(a3:Int)(a4:Int)(a5:Int)(a6:Int):Bool:=letI q1:=aU a0 a1 a2 a3 a4;letI q2:=av a0 a1 a2 a3 a4;letI q3:=(q1.1).ai;letI q0:=bq a0 (qf (jH (q2.1) q3) (q3.getD (Int.toNat (Int.tmod (i64.wrap a5) (q3.length:Int))) 0));(bif(!qd)then false else(bif(!(yd a0 a1 a2 a3 a4))then true else(bif((q1.2.2 !=0) ||(!q1.2.1))then true else(bif((q2.2 !=0) ||((q3.length:Int) ==0))then false else(bif((q0.2.2 !=0) ||(!q0.2.1))then false else(match aj (fJ a0 a1 a2 a3 a4 a6) ((q2.1).length) 0 ([])with| .inl x=>x.elim| .inr ly=>(((bq a0 (jH (q2.1) ly)).2.2==0)&&(bq a0 (jH (q2.1) ly)).2.1)))))))
def jN (a0:ah)(a1:List bh)(a2:Int)(a3:Int)(a4:Int)(a5:Int)(a6:Int):Prop:=letI q4:=aU a0 a1 a2 a3 a4;letI q0:=(q4.1).ai;letI q5:=(q0.length:Int);letI q3:=Int.tmod (i64.wrap a5) q5;letI q6:=fJ a0 a1 a2 a3 a4 a6;letI q7:=av a0 a1 a2 a3 a4;letI q2:=q7.1;letI q8:=q0.getD (Int.toNat q3) 0;letI q1:=qf (jH q2 q0) q8;letI q9:=bq a0 q1;((r8)/\((!qd)=false->((t_ a0 a1 a2 a3 a4)/\((!(yd a0 a1 a2 a3 a4))=false->((mD a0 a1 a2 a3 a4)/\(((q4.2.2 !=0) ||(!q4.2.1))=false->((rb a0 a1 a2 a3 a4)/\(((q7.2 !=0) ||(q5==0))=false->(q0.length<=aH->(q5≠0/\((0<=q3/\q3<q5)/\((pf q2 q0)/\((sa (jH q2 q0) q8)/\((gB a0 q1)/\(((q9.2.2 !=0) ||(!q9.2.1))=false->(q2.length<=aH->(okI q6 (kx a0 a1 a2 a3 a4 a6) (q2.length) 0 ([])/\(∀ ly,aj q6 (q2.length) 0 ([])=.inr ly->((pf q2 ly)/\(gB a0 (jH q2 ly)))))))))))))))))))))
@[go_sem] def mP:List SV->Option Con:=(pD .al λa0=>(pR .u0 λa1=>(pI λa2=>(pI λa3=>(pI λa4=>(pV λa5=>(pW λa6=>(pE (.det (jN a0 a1 a2 a3 a4 a5 a6) (.v (.bool (jy a0 a1 a2 a3 a4 a5 a6))))))))))))
theorem aiD {p:Prop}(h:p:=by simp only[go_sem,C0];all_goals exact cl):p:=h
theorem xF:zs Tryz.prog 6 mP:=by
 have hG:=mG (cp If (cn [.st .al,.sl .u0,.o,.o,.o] Lu (cn [.st .al,.sl .u0,.o,.o,.o] AE (cn [.sl .x6,.o] Lz (cp wg (cp u6 C1)))))) (co (zs.ari wg) (co (zs.ari (t6.norm [.st .al,.sl .x6])) (co (zs.ari (yU.norm [.st .al,.sl .u0,.o,.o,.o])) C1)));refine fN hG Tryz.f6 [.o] (ax λa0=>(bD λa1=>(az λU=>(az λO=>(az λE=>(acX λa5=>(acY λY=>(am (λhp=>?_)))))))));dsimp only[an]at hp;unfold jN at hp;refine⟨Y2 rfl,(λid st=>bif Nat.beq id 0 then some (LCR (ρ:=Empty) (σ:=(List Int)) 5 [.slot 25 (.row .int ([]))] [0,1,2,3,4,5] (λW V=>⟨[(6,.v (.int .u16 Y)),(7,.ptr 0 0),(15,.ptr 1 0),(18,.rs .x6 ((av a0 a1 U O E).1)),(25,.os 5),(103,.rs .x6 ((av a0 a1 U O E).1)),(104,.v (.int .i64 (((av a0 a1 U O E).1).length:Int))),(105,.v (.int .i64 (W:Int)))],[.cells (cellsOf .al a0),.cells (cellsOf .refusal ((aU a0 a1 U O E).1)),.dead,.dead,.dead,.row .int V]⟩) (fJ a0 a1 U O E Y) (kx a0 a1 U O E Y) (((av a0 a1 U O E).1).length) ([]) (((av a0 a1 U O E).1).length<=aH) ((·.elim)) ((·.elim)) st)else none),?_,?_⟩;unfold ae Tryz.f6;simp only[ak,true_and,and_true];refine bL mixed aB hG kr (λ_=>rfl) (((av a0 a1 U O E).1).length:Int) rfl fj (λhb0 W V aqw X hw hc=>⟨L0,ag _,?_⟩) (λhb0 V hc=>?_);unfold kx at X;try simp only[hw,alI]at X
 exact mX (jl [0,1,2,3,4,8]) (jl [0,1,2,3,4,5]);exact mY (jl [0,1,2,3,4,8]) (jl [0,1,2,3,4,5]);unfold ae Tryz.f6;try unfold jy
 exact aiD
theorem aiE {α ρ:Type}{step:Nat->Unit->ρ⊕Unit}(d:α)(P:α->Bool):∀ (L K:List α),(∀ k,∃ r,step k ()=bif P ((K++L).getD k d)then .inl r else .inr ())->(match aj step L.length K.length ()with| .inl _=>true| .inr _=>false)=L.any P
 | [],K,_=>rfl
 |x::L,K,h=>by
  have O:=h K.length;have g:(K++x::L).getD K.length d=x:=by simp
  rw[g]at O;obtain⟨r,e⟩:=O;have E:=aiE d P L (K++[x]) (by simpa using h);rw[alN,alL,alS,alQ]at E;rw[alL,aj,e,List.any_cons];cases U:P x with
  |true=>rfl|false=>rw[am8,<-E];rfl
theorem N9 (n:Int)(l:List Int):gJ n l=l.any λx=>x==n:=by
 have:=aiE (step:=qe n l) (0:Int) (λx=>x==n) l [] λk=>⟨(),rfl⟩;rw[<-this];unfold gJ;split <;>rename_i q <;>rw[alS,q]
theorem Qg {step:Nat->List Claim->Empty⊕List Claim}{p:Nat->List Claim->Prop}(P:Claim->Bool):∀ (L K:List Claim) (t:List Claim),(∀ k s,step k s=bif P ((K++L).getD k default)then .inr (s++[(K++L).getD k default])else .inr s)->(∀ k s,s.length<4096->p k s)->t.length+L.length<=4096->aj step L.length K.length t=.inr (t++L.filter P)/\okI step p L.length K.length t
 | [],K,t,_,_,_=>by simp[aj,okI]
 |x::L,K,t,h,U,X=>by
  have g:(K++x::L).getD K.length default=x:=by simp
  have e:=h K.length t;rw[g]at e;simp only[alL]at X;have O:=λt' (Y:t'.length+L.length<=4096) =>Qg P L (K++[x]) t' (by simpa using h) U Y;simp only[alN,alL,alS,alQ]at O;rw[alL,aj,okI,e];cases W:P x with
  |true=>
   obtain⟨i1,V⟩:=O (t++[x]) (by rw[alN];simp only[alL,alS];omega);refine⟨?_,U _ _ (by omega),λs' E=>by cases E;exact V⟩;rw[List.filter_cons_of_pos W];simp only[cond_true];rw[i1,amt];rfl
  |false=>
   obtain⟨i1,V⟩:=O t (by omega);refine⟨?_,U _ _ (by omega),λs' E=>by cases E;exact V⟩;rw[List.filter_cons_of_neg (by rw[W];decide)];exact i1
variable {c:List Claim}
theorem Hc(hc:c.length<=4096)(l:List Int):pf c l/\jH c l=c.filter λx=>l.any λy=>x.right==y:=by
 have:=Qg (step:=qy c l) (p:=nM c l) (λx=>gJ x.right l) c [] [] (λk s=>rfl) (λk s E _=>by rw[alN];simp only[alL,alS];unfold dI;omega) (by simpa using hc);refine⟨λ_=>this.2,?_⟩;unfold jH;rw[alS]at this;rw[this.1];simp only[N9,alR];refine anV λx _=>?_;congr 1;funext y;rw[amo,beq_iff_eq,beq_iff_eq];exact eq_comm
theorem Xt(hc:c.length<=4096)(o:Int):sa c o/\qf c o=c.filter λx=>x.right !=o:=by
 have:=Qg (step:=qA c o) (p:=nN c o) (λx=>iu x.right o) c [] [] (λk s=>rfl) (λk s E _=>by rw[alN];simp only[alL,alS];unfold dI;omega) (by simpa using hc);refine⟨λ_=>this.2,?_⟩;unfold qf;rw[alS]at this;rw[this.1];rfl
theorem aiF {a:Int}(h:0<=a/\a<=255){n:Nat}(O:0<n)(E:n<=900):0<=Int.tmod (i64.wrap a) (n:Int)/\Int.tmod (i64.wrap a) (n:Int) < (n:Int):=by
 rw[aA (by omega) (by omega),amy (by omega)];exact⟨anf _ (by omega),ana _ (by omega)⟩
def smI (R:List Int)(n:Nat)(s:List Int):Prop:=s.Nodup/\(∀ x∈s,x∈R)/\s.length<n
theorem Ju {d:ah}{l:List bh}{fr to k X:Int}{j:Nat}{s s':List Int}(O:j< (av d l fr to k).1.length)(Y:(aU d l fr to k).1.ai.length<=900)(h:smI (rts d (av d l fr to k).1) (aU d l fr to k).1.ai.length s)(e:fJ d l fr to k X j s=.inr s'):smI (rts d (av d l fr to k).1) (aU d l fr to k).1.ai.length s':=by
 unfold fJ at e;rw[cond_eq_ite]at e;split at e
 rename_i g;cases e;obtain⟨h1,h2,h3⟩:=h;simp only[alG,al0,decide_eq_true_eq,N9]at g;rw[aA (by omega) (by omega)]at g;have U:(av d l fr to k).1.getD j default∈(av d l fr to k).1:=by
  rw[amZ,alP O];exact amA O
 refine⟨amU.2 ⟨h1,by simp,λa W b V=>?_⟩,λx E=>?_,by rw[alN];simp only[alL,alS];omega⟩;obtain rfl:=aml.1 V;have:=List.any_eq_false.1 g.1.1 a W;simpa using this;rcases amj.1 E with q|q;exact h2 x q;rw[aml.1 q];exact G9 (s:= { d:=d,c:=(av d l fr to k).1}) U;cases e;exact h
theorem TA (a0:ah)(a1:List bh)(U O E a5 a6:Int)(_: -9223372036854775808<=U/\U<=9223372036854775807)(_: -9223372036854775808<=O/\O<=9223372036854775807)(_: -9223372036854775808<=E/\E<=9223372036854775807)(h5:0<=a5/\a5<=255)(_:0<=a6/\a6<=65535):jy a0 a1 U O E a5 a6=true:=by
 unfold jy;rw[Xi];simp only[alZ,cond_false];refine bt λ_=>bt λg=>?_;obtain⟨hO,A,B,hS,hA,hz⟩:=RL g;have hc:=zD a0 a1 U O E;have W:(aU a0 a1 U O E).1.ai.Sublist (rts a0 (av a0 a1 U O E).1):=G7.1 (by rw[hS];simp);have h10:(rts a0 (av a0 a1 U O E).1).length<=10:=by have:=hO.ten;show(aq _).length<=10;omega
 have hzl:=W.length_le;have hn:0< (aU a0 a1 U O E).1.ai.length:=by
  refine Nat.pos_of_ne_zero λq=>?_;rw[aot.1 q]at hz;have e:flt (av a0 a1 U O E).1 []=[]:=aoB.2 λx _=>by rw[Ly];simp
  rw[e]at hz;have:Qe a0 []=true:=Xm (Xl hO.ask);rw[this]at hz;cases hz
 have h0:(((av a0 a1 U O E).2 !=0) ||((((aU a0 a1 U O E).1).ai.length:Int) ==0))=false:=by
  rw[hO.err];simp;intro q;rw[q]at hn;simp at hn
 rw[h0,cond_false,(Hc hc _).2];have hi:=aiF h5 hn (by omega);rw[(Xt (alW (amv _ _) hc) _).2,ans];have e1:∀ o,((av a0 a1 U O E).1.filter λx=>(x.right !=o)&&(aU a0 a1 U O E).1.ai.any λy=>x.right==y)=flt (av a0 a1 U O E).1 ((aU a0 a1 U O E).1.ai.filter λy=>y !=o):=λo=>anV λx _=>by
  rw[Ly,ao2,List.any_filter,amo];simp only[alG,amx,beq_iff_eq];exact⟨λ⟨h1,y,h2,V⟩ =>⟨y,h2,by rw[<-V];exact h1,V⟩,λ⟨y,h2,h1,V⟩ =>⟨by rw[V];exact h1,y,h2,V⟩⟩
 rw[e1];generalize ho:((aU a0 a1 U O E).1).ai.getD (Int.toNat (Int.tmod (i64.wrap a5) ((((aU a0 a1 U O E).1).ai).length:Int))) (0:Int)=o;have hom:o∈(aU a0 a1 U O E).1.ai:=by
  rw[<-ho,amZ,alP (by omega)];exact amA _
 have hlt:((aU a0 a1 U O E).1.ai.filter λy=>y !=o).length< (aU a0 a1 U O E).1.ai.length:=List.length_filter_lt_length_iff_exists.2 ⟨o,hom,by simp⟩;have X:(bq a0 (flt (av a0 a1 U O E).1 ((aU a0 a1 U O E).1.ai.filter λy=>y !=o))).2.1=true:=hA _ (CZ hS (List.filter_sublist.trans W) hlt);rw[X,N5 X];simp only[bne_self_eq_false,alZ,am1,cond_false];cases q:aj (fJ a0 a1 U O E a6) (av a0 a1 U O E).1.length 0 []with
 |inl x=>exact x.elim
 |inr s=>
  obtain⟨s1,s2,s3⟩:=sJ (λ_=>smI (rts a0 (av a0 a1 U O E).1) (aU a0 a1 U O E).1.ai.length) _ _ _ ⟨amV,λx hx=>(by cases hx),hn⟩ (λj t _ hj ht t' e=>Ju (by omega) (by omega) ht e) s q;have e2:((av a0 a1 U O E).1.filter λx=>s.any λy=>x.right==y)=flt (av a0 a1 U O E).1 ((rts a0 (av a0 a1 U O E).1).filter λy=>s.any λx=>x==y):=anV λx hx=>by
   rw[Ly,ao2,List.any_filter,amo];simp only[alG,amx,beq_iff_eq];exact⟨λ⟨y,h2,V⟩ =>⟨y,s2 y h2,⟨y,h2,rfl⟩,V⟩,λ⟨y,_,⟨w,h2,V⟩,h4⟩ =>⟨w,h2,by rw[h4,V]⟩⟩
  have hl2:((rts a0 (av a0 a1 U O E).1).filter λy=>s.any λx=>x==y).length<=s.length:=Xk ((Lx _).filter _) λx hx=>by
   obtain⟨y,h1,h2⟩:=amx.1 (ang.1 hx).2;rw[<-beq_iff_eq.1 h2];exact h1
  have Y:=hA _ (CZ hS List.filter_sublist (Nat.lt_of_le_of_lt hl2 s3));simp only[(Hc hc s).2];rw[e2,N5 Y];exact Y
theorem TB (a0:ah)(a1:List bh)(U O E a5 V:Int)(_: -9223372036854775808<=U/\U<=9223372036854775807)(_: -9223372036854775808<=O/\O<=9223372036854775807)(_: -9223372036854775808<=E/\E<=9223372036854775807)(h5:0<=a5/\a5<=255)(_:0<=V/\V<=65535):jN a0 a1 U O E a5 V:=by
 refine⟨Xo,λ_=>⟨ZE _ _ _ _ _,λ_=>⟨Xn _ _ _ _ _,λg=>⟨(Jd _ _ _ _ _).1,λg0 _=>?_⟩⟩⟩⟩;obtain⟨hO,A,B,hS,hA,hz⟩:=RL g;have hc:=zD a0 a1 U O E;have X:(aU a0 a1 U O E).1.ai.Sublist (rts a0 (av a0 a1 U O E).1):=G7.1 (by rw[hS];simp);have h10:(rts a0 (av a0 a1 U O E).1).length<=10:=by have:=hO.ten;show(aq _).length<=10;omega
 have hzl:=X.length_le;simp only[amf,beq_eq_false_iff_ne,ne_eq]at g0;have hn:0< (aU a0 a1 U O E).1.ai.length:=by omega
 have Y:=((mc a0 _).1 hO.ask.chk).2.2.1;refine⟨g0.2,aiF h5 hn (by omega),(Hc hc _).1,(Xt (by rw[(Hc hc _).2];exact alW (amv _ _) hc) _).1,D0 _ _,λ_ _=>⟨jk (λ_=>smI (rts a0 (av a0 a1 U O E).1) (aU a0 a1 U O E).1.ai.length) _ _ _ ⟨amV,λx W=>(by cases W),hn⟩ λj t _ hj ht=>⟨⟨λ_=>?_,λ_=>?_⟩,λt' e=>Ju (by omega) (by omega) ht e⟩,λs _=>⟨(Hc hc s).1,D0 _ _⟩⟩⟩;have W:(av a0 a1 U O E).1.getD j default∈(av a0 a1 U O E).1:=by
  rw[amZ,alP (by omega)];exact amA _
 have:=Y _ W;unfold okC at this;simp only[alG,decide_eq_true_eq]at this;rw[amy (by omega)];exact anf _ (by omega);have:=ht.2.2;rw[alN];simp only[alL,alS];unfold dI;omega
end Go.Sx
end
section
namespace Go.Sx
open Go.Deep Go.RowKit
section
variable {F:Nat->Prop}{own:Own}{w:World}
def RC (F:Nat->Prop)(own:Own)(w:World)(ks:List Kd)(cs:List Value):Prop:=
 ∃ l:List SV,ul ks l=true/\l.length=cs.length/\∀ (j:Nat) (s:SV) (v:Value),l[j]? =some s->cs[j]? =some v->Rel F own w s v
theorem N_:∀ {a b:List Kd} {l m:List SV},ul a l=true->ul b m=true->ul (a++b) (l++m)=true
 | [],b,l,m,h1,h2=>by grind [uz]
 |k::a,b,l,m,h1,h2=>by
  obtain⟨x,r,rfl,O,E⟩:=pw h1;simp only[al7,ul,O,N_ E h2,Bool.and_self]
theorem RC.nil:RC F own w [] []:=⟨[],rfl,rfl,λj s v h=>by cases h⟩
theorem RC.app {a b:List Kd}{c d:List Value}(h1:RC F own w a c)(h2:RC F own w b d):RC F own w (a++b) (c++d):=by
 obtain⟨l,O,V,r1⟩:=h1;obtain⟨m,U,E,Y⟩:=h2;refine⟨l++m,N_ O U,by simp[V,E],λj s v X W=>?_⟩;grind
theorem RC.one {k:Kd}{s:SV}{v:Value}(h1:fit k s=true)(h2:Rel F own w s v):RC F own w [k] [v]:=
 ⟨[s],by simp[ul,h1],rfl,λj s' U O E=>by
  grind⟩
end
def adD:Kd->Kd->Bool
 | .s,.s=>true| .b,.b=>true| .n a,.n b=>decide (a=b)| .r a,.r b=>decide (a=b)| .m a c,.m b d=>decide (a=b)&&decide (c=d)|_,_=>false
theorem ZJ:∀ {a b:Kd},adD a b=true->a=b:=by
 intro a b h;cases a <;>cases b <;>simp_all [adD]
def Xu:List Kd->List Kd->Bool
 | [],[] =>true|a::l,b::m=>adD a b&&Xu l m|_,_=>false
theorem RN:∀ {a b:List Kd},Xu a b=true->a=b
 | [],[],_=>rfl
 |a::l,b::m,h=>by
  simp only[Xu,alG]at h;rw[ZJ h.1,RN h.2]
def He (P:Program)(g:TypeId->Option (List Kd)):List Field->Nat->Nat->Option (List Kd)
 | [],off,tot=>bif Nat.beq off tot then some []else none
 |f::r,off,tot=>match g f.type with
  |some a=>bif Nat.beq f.offset off&&Nat.beq a.length (P.cellsOf f.type)then(He P g r (off+a.length) tot).map (a++ ·)else none|none=>none
def Qh (a:List Kd):Nat->List Kd
 |0=>[]|n+1=>a++Qh a n
def Hf (P:Program):Nat->TypeId->Option (List Kd)
 |0,_=>none
 |n+1,t=>match P.underlying t with
  |some .bool=>some [.b]|some (.int k) =>some [.n k]|some .string=>some [.s]
  |some (.slice e) =>match LI P e,Hf P n e with
   |some k,some ks=>bif Xu ks (d_ k)&&Nat.beq (P.cellsOf e) (aa k)&&Nat.ble 1 (aa k)then some [.r k]else none|_,_=>none
  |some (.struct fs) =>He P (Hf P n) fs.toList 0 (P.cellsOf t)
  |some (.array m e) =>match Hf P n e with
   |some a=>bif Nat.beq a.length (P.cellsOf e)&&Nat.beq (P.cellsOf t) (m*a.length)then some (Qh a m)else none|none=>none
  |_=>none
section
variable {H:Type}{enc:TypeId×Value->H}{P:Program}{F:Nat->Prop}{own:Own}{w:World}{base:Nat}{spare:Nat->Bool}{held:Bool}{S:DataW H->Prop}
theorem RO {g:TypeId->Option (List Kd)}(X:∀ t ks,g t=some ks->∀ (E:Nat) (cs:List Value) (x:DataW H×List MemPlace),DataW.trod enc P w base spare held E t cs=some x->S x.1->RC F own w ks cs)
  (E:Nat) (cs:List Value):∀ (fs:List Field) (off:Nat) (ks:List Kd),He P g fs off cs.length=some ks->(∀ f∈fs,∃ x,DataW.trod enc P w base spare held E f.type ((cs.drop f.offset).take (P.cellsOf f.type))=some x/\S x.1)->RC F own w ks (cs.drop off)
 | [],off,ks,h,_=>by
  unfold He at h;cases O:Nat.beq off cs.length with
  |false=>grind
  |true=>
   rw[O]at h;have:off=cs.length:=alH O;subst this;cases h;rw[aoq];exact RC.nil
 |f::r,off,ks,h,Y=>by
  unfold He at h;cases ha:g f.type with
  |none=>grind
  |some a=>
   rw[ha]at h;dsimp only at h;cases O:Nat.beq f.offset off&&Nat.beq a.length (P.cellsOf f.type)with
   |false=>grind
   |true=>
    rw[O]at h;simp only[cond_true,amX]at h;obtain⟨U,h2,rfl⟩:=h;rw[alG]at O;have e1:f.offset=off:=alH O.1;have e2:a.length=P.cellsOf f.type:=alH O.2;obtain⟨x,V,W⟩:=Y f (by simp);have h3:=X _ _ ha _ _ _ V W;have h4:=RO X E cs r (off+a.length) U h2 λf hf=>Y f (by simp[hf]);have:=h3.app h4;grind [List.drop_drop,List.take_append_drop]
theorem RP {e:TypeId}{a:List Kd}(V:∀ (E:Nat) (cs:List Value) (x:DataW H×List MemPlace),DataW.trod enc P w base spare held E e cs=some x->S x.1->RC F own w a cs)
  (E:Nat):∀ (m:Nat) (cs:List Value),cs.length=m*a.length->(∀ i,i<m->∃ x,DataW.trod enc P w base spare held E e ((cs.drop (i*a.length)).take a.length)=some x/\S x.1)->RC F own w (Qh a m) cs
 |0,cs,h,_=>by
  have:cs=[]:=by simpa using h
  subst this;exact RC.nil
 |m+1,cs,h,hx=>by
  obtain⟨x,O,U⟩:=hx 0 (by omega);rw[Nat.zero_mul,List.drop_zero]at O;have W:=V _ _ _ O U;have X:=RP V E m (cs.drop a.length) (by grind) λi hi=>by
   grind [List.drop_drop]
  have:=W.app X
  rwa[amG]at this
structure Small (S:DataW H->Prop):Prop where
 agg:∀ l,S (.agg l)->∀ d∈l,S d
 slice:∀ l m,S (.slice l m)->l.length<=aH/\∀ d∈l,S d
theorem tx (hS:Small S)(O:∀ b,¬cH F own b):∀ (n:Nat) (t:TypeId) (ks:List Kd),Hf P n t=some ks->∀ (fuel:Nat) (cs:List Value) (x:DataW H×List MemPlace),DataW.trod enc P w base spare held fuel t cs=some x->S x.1->RC F own w ks cs
 |0,_,_,h,_,_,_,_,_=>by cases h
 |n+1,t,ks,h,fuel,cs,x,hx,hs=>by
  unfold Hf at h;split at h
  rename_i V;cases h;obtain⟨b,rfl,rfl⟩:=DataW.trod_bool V hx;exact RC.one (s:=.v (.bool b)) rfl (.v _);rename_i k V;cases h;obtain⟨m,rfl,rfl,_⟩:=DataW.trod_int V hx;exact RC.one (s:=.v (.int k m)) (by simp[fit]) (.v _);rename_i V;cases h;obtain⟨b,rfl,rfl,_⟩:=DataW.trod_string V hx;exact RC.one (s:=.v (.string b)) rfl (.v _)
  ·rename_i e V;split at h
   ·rename_i k ks2 hk hks;cases U:Xu ks2 (d_ k)&&Nat.beq (P.cellsOf e) (aa k)&&Nat.ble 1 (aa k)with
    |false=>rw[U]at h;cases h
    |true=>
     rw[U]at h;cases h;simp only[alG]at U;have e1:=RN U.1.1;have e2:P.cellsOf e=aa k:=alH U.1.2;have e3:1<=aa k:=Y2 U.2;subst e1;rcases open_slice V hx with⟨rfl,rfl⟩ | ⟨a,len,cap,m,f2,D,Pl,rfl,hb1,hl,hm,hmm,rfl,hel⟩;exact RC.one (s:=.rs k []) (by simp[fit]) .rs0
     ·have hlm:len<=m:=by subst hmm;split <;>omega
      obtain⟨hs1,hs2⟩:=hS.slice _ _ hs;simp only[amM,anj]at hs1;have helt:∀ i,i<len->∃ E,E.length=aa k/\(∀ j v,E[j]? =some v->w.cell? ((a.add (i*aa k)).add j)=some v)/\RC F own w (d_ k) E:=λi hi=>by
       obtain⟨E,h1,h2⟩:=hel i (by omega);have h3:=tx hS O n e (d_ k) hks f2 E _ h2 (hs2 _ (anl (am_.2 hi)));unfold World.cells? at h1;split at h1
       refine⟨E,by rw[mapM_some_length h1,anj,e2],λj v W=>?_,h3⟩;have hlt:j<P.cellsOf e:=by
        have:=(alM.1 W).1
        rwa[mapM_some_length h1,anj]at this
       have:=mapM_some_get h1 j j (by simp[hlt]);rw[e2]at this;rw[this,W];cases h1
      by_cases h0:len=0
      subst h0;exact RC.one (s:=.rs k []) (by simp[fit]) .rs0
      ·have Y:a.spot=none:=by
        obtain⟨E,h1,h2,_⟩:=helt 0 (by omega);have:=h2 0 (E[0]'(by omega)) (by rw[alP]);rw[Nat.zero_mul]at this;simp only[Addr.add,if_true]at this;unfold World.cell? at this;split at this
        cases Y:a.spot with
        |none=>rfl|some q=>rw[Y]at this;simp at this
        cases this
       obtain⟨ab,ao,asp⟩:=a;dsimp only at Y;subst Y
       haveI:Inhabited k.T:=⟨et k⟩
       obtain⟨X,hX⟩:=choose_lt (p:=λi (x:k.T) =>∀ (j:Nat) (s:SV),(cellsOf k x)[j]? =some s->∃ v,w.cell? ⟨ab,ao+i*aa k+j,none⟩=some v/\Rel F own w s v) (n:=len) λi hi=>by
        obtain⟨E,h1,h2,l,h3,h4,h5⟩:=helt i hi;refine⟨mkE k l,λj s W=>?_⟩;rw[qH (k:=k) (l:=l) (x:=mkE k l) (by unfold vY;rw[h3];rfl)]at W;have hlt:j<E.length:=by
         have:=(alM.1 W).1;omega
        refine⟨E[j],?_,h5 j s _ W (alP hlt)⟩;have:=h2 j E[j] (alP hlt);have hadd:∀ p q,((⟨ab,ao,none⟩:Addr).add p).add q=⟨ab,ao+p+q,none⟩:=λp q=>by
         unfold Addr.add;by_cases hp:p=0 <;>by_cases hq:q=0 <;>simp[hp,hq]
        rwa[hadd]at this
       have hL:((List.range len).map X).length=len:=by simp
       refine RC.one (s:=.rs k ((List.range len).map X)) (by simp[fit]) ?_;have hget:∀ (i:Nat) (x:k.T),((List.range len).map X)[i]? =some x->i<len/\x=X i:=λi x hi=>by
        obtain⟨h1,h2⟩:=alM.1 hi;rw[hL]at h1;simp only[List.getElem_map,List.getElem_range]at h2;subst h2;exact⟨h1,rfl⟩
       have:=Rel.rs (F:=F) (own:=own) (w:=w) (k:=k) (l:=(List.range len).map X) (b:=ab) (o:=ao) (cap:=cap) (λi j=>(w.cell? ⟨ab,ao+i*aa k+j,none⟩).getD undef) (by rw[hL];exact hl) (by rw[hL];exact hs1)
        (λi x hi j s W=>by
         obtain⟨h1,rfl⟩:=hget i x hi;obtain⟨v,h2,_⟩:=hX i h1 j s W;exact⟨O _,by rw[h2];rfl⟩)
        (λi x hi j s W=>by
         obtain⟨h1,rfl⟩:=hget i x hi;obtain⟨v,h2,h3⟩:=hX i h1 j s W;rw[h2];exact h3)
       rwa[hL]at this
   cases h
  rename_i fs V;obtain⟨xs,m,rfl,rfl,hl,hlen,hf⟩:=DataW.trod_struct V hx;rw[<-hl]at h;have:=RO (tx hS O n) m cs fs.toList 0 ks h λf hfm=>by
   obtain⟨i,hi,rfl⟩:=amm hfm;have hi':i<fs.size:=by simpa using hi
   have h1:=hf i fs[i] (by simp[hi']);rw[alP (by omega)]at h1;refine⟨_,by simpa using h1,hS.agg _ hs _ (anl (amA _))⟩
  simpa using this;rename_i m e V;split at h
  rename_i a ha;cases U:Nat.beq a.length (P.cellsOf e)&&Nat.beq (P.cellsOf t) (m*a.length)with
  |false=>rw[U]at h;cases h
  |true=>
   rw[U]at h;cases h;rw[alG]at U;have e1:a.length=P.cellsOf e:=alH U.1;have e2:P.cellsOf t=m*a.length:=alH U.2;obtain⟨xs,f2,rfl,rfl,hl,hlen,hf⟩:=DataW.trod_array V hx;refine RP (tx hS O n e a ha) f2 m cs (by rw[hl,e2]) λi hi=>?_;have h1:=hf i hi;rw[alP (by omega),<-e1]at h1;exact⟨_,h1,hS.agg _ hs _ (anl (amA _))⟩
  cases h;cases h
end
end Go.Sx
end
section
namespace Go.Sx
open Go.Proofs
section
variable {F:Nat->Prop}{own:Own}{w:World}
theorem ZK {k:Tag}{cs:Array Value}(h:RC F own w (d_ k) cs.toList):∃ x:k.T,Rel F own w (.agg (cellsOf k x)) (.agg cs):=by
 obtain⟨l,U,E,V⟩:=h;refine⟨mkE k l,?_⟩;rw[qH (k:=k) (l:=l) (x:=mkE k l) (by unfold vY;rw[U];rfl)];refine .agg (by simpa using E.symm) λj s O=>?_;have hlt:j<cs.size:=by
  have:=(alM.1 O).1;simpa[E]using this
 exact V j s _ O (by simp[Array.getD,hlt])
theorem adE {k:Tag}{v:Value}(h:RC F own w [.r k] [v]):∃ l:List k.T,Rel F own w (.rs k l) v:=by
 obtain⟨l,O,X,V⟩:=h;obtain⟨x,r,rfl,E,W⟩:=pw O;have U:=V 0 x v rfl rfl;cases x with
 |rs k' l'=>
  have:k=k':=by
   simp only[fit]at E;exact uv E
  subst this;exact⟨l',U⟩
 |_=>simp[fit]at E
end
end Go.Sx
end
section
namespace Go.Sx
open Go.ChangeShapes Go.RowKit Go.WideShapes
section
variable {H:Type}{enc:TypeId×Value->H}{P:Program}
def ZL (P:Program):List TypeId->Bool
 | [] =>true|t::r=>P.readableRec t&&Nat.blt t P.types.size&&ZL P r
theorem Jv (Y:laidOutB P=true){W X:World}(V:Below W.heap.size W X):∀ {ts:List TypeId} {vs:List Value} {ds:List (DataW H)} {U:List MemPlace},ZL P ts=true->
  DataW.TrodAll enc P W 0 (λ_=>true) true ts vs ds U->(∀ x∈U,x.block<W.heap.size)->DataW.TrodAll enc P X 0 (λb=>decide (b<W.heap.size)) true ts vs ds U
 | [],vs,ds,U,_,h,_=>by
  obtain⟨rfl,rfl,rfl⟩:=trodAll_nil h;exact trodAll_mk0
 |t::ts,vs,ds,U,O,h,hlt=>by
  unfold ZL at O;rw[alG,alG]at O;obtain⟨v,vs',d,ds',p,q,rfl,rfl,rfl,h1,h2⟩:=trodAll_cons h;refine trodAll_cons_mk (WideElems.Trod_stays Y O.1.1 (by simpa[Nat.blt_eq]using O.1.2) h1 (λx E=>V.same (hlt x (an2 _ E))) (λx E=>by simpa using hlt x (an2 _ E))) ?_;exact Jv Y V O.2 h2 λx E=>hlt x (anv _ E)
theorem Xv (hl:laidOutB P=true){f:Func}{s:ChangeSpec}{W W':World}{args:Array Value}{ds U:List (DataW H)}{E:List MemPlace}{t:TypeId}
  (hk:ZL P f.params.toList=true) (X:DataW.Whole enc P f.params.toList s.vars false W args.toList ds U E)
  (hr:f.resultTypes= #[t]) (ht:P.underlying t=some .bool) (Y:s.vars=[]) (h1:(s.fn H (ds++U)).results=[.lit (.bool true)]) (h2:(s.fn H (ds++U)).args=ds) (h3:(s.fn H (ds++U)).vars=[])
  (hg:Below W.heap.size W W'):s.post enc P f false true false false W args (.bool true) W':=by
 have hlt:=X.lt;have V:=X;obtain⟨p,q,hA,hV,rfl,_,_⟩:=X;rw[Y]at hV;obtain⟨rfl,rfl⟩:=trodVars_none hV;refine⟨ds,[],p++[],[],p,[],V,?_,?_,?_,?_,λh=>by cases h⟩;rw[h1,hr];exact trodAll_cons_mk (shut_bool ht _) trodAll_mk0;rw[h2];exact Jv hl hg hk hA λx O=>hlt x (by simpa using O);rw[h3,Y];rfl;exact World.keptBut_mono (λx O=>⟨O,.inr (.inl (by simpa using O))⟩) (hg.frame (· ∈p++[]))
end
end Go.Sx
end
section
namespace Go.Proofs.YtaikmgjfkejlkaaGreat.bulks
variable {H:Type}
theorem one_le(d:DataW H):1<=Rows.uptoBulk d:=by
 cases d with
 |lit l=>cases l <;>simp[Rows.uptoBulk]|nil=>simp[Rows.uptoBulk]|ptr d=>simp[Rows.uptoBulk]|slice rG spare=>simp[Rows.uptoBulk]|agg O=>simp[Rows.uptoBulk]|iface t d=>simp[Rows.uptoBulk]|map E=>simp[Rows.uptoBulk]|held h=>simp[Rows.uptoBulk]
variable {l:List (DataW H)}
theorem aqX{d:DataW H}(h:d∈l):Rows.uptoBulk d<=Rows.uptoBulkAll l:=by
 induction l with
 |nil=>cases h
 |cons x r E=>
  simp only[Rows.uptoBulkAll];cases List.mem_cons.1 h with
  |inl e=>subst e;omega|inr e=>have:=E e;omega
theorem append(l r:List (DataW H)):Rows.uptoBulkAll (l++r)=Rows.uptoBulkAll l+Rows.uptoBulkAll r:=by
 induction l with
 |nil=>simp[Rows.uptoBulkAll]|cons x l E=>simp only[List.cons_append,Rows.uptoBulkAll,E];omega
theorem length_le(l:List (DataW H)):l.length<=Rows.uptoBulkAll l:=by
 induction l with
 |nil=>simp[Rows.uptoBulkAll]|cons x r E=>have:=one_le x;simp only[Rows.uptoBulkAll,List.length_cons];omega
theorem aq7(rG spare:List (DataW H)):rG.length+spare.length+1<=Rows.uptoBulk (.slice rG spare):=by
 have h1:=length_le rG;have h2:=length_le spare;simp only[Rows.uptoBulk];omega
theorem aqH(rG spare:List (DataW H)):Rows.uptoBulkAll rG+1<=Rows.uptoBulk (.slice rG spare):=by
 simp only[Rows.uptoBulk];omega
theorem bound(E:Rows.uptoSmall H l=true):Rows.uptoBulkAll l<=1048576:=by
 simpa[Rows.uptoSmall]using E
theorem room {n b:Nat}(O:n<=2097152)(E:b<=4096):(n+n / 4+192)*b<=281474976710656:=by
 have h:(n+n / 4+192)*b<=2621632*4096:=Nat.mul_le_mul (by omega) E;omega
end Go.Proofs.YtaikmgjfkejlkaaGreat.bulks
end
