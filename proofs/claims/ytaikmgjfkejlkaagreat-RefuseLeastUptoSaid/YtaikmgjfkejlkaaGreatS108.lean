/- Part of the proof that the law RefuseLeast returns true and leaves its arguments as they were, for all arguments of bulk at most 1048576 (the Upto form). -/
import Derived.Test.YtaikmgjfkejlkaaGreatS107
import Derived.Test.YtaikmgjfkejlkaaGreatS106
import Derived.Calls
import Derived.Shelf.SlSortCmp.NoneTotal
import Derived.Shelf.SortM.Plain
import Derived.Shelf.SortM.SortNone
import Derived.Ground.SlgmProg
import Derived.Shelf.Slices.CompactI
import Derived.Test.YtaikmgjfkejlkaaGreatProg
set_option linter.all false
set_option maxHeartbeats 4000000
set_option maxRecDepth 100000
section
namespace Go.Sx
open Go.RowKit
def VJ (k:Tag)(i:Nat)(t:List (Nat×SV))(h:List Ob):SV->St
 | .v (.slice none 0 0) =>⟨(i,.os h.length)::t,h++[.row k []]⟩|_=>⟨t,h⟩
def YM (k:Tag)(id off:Nat)(t:List (Nat×SV))(h:List Ob)(l:List SV):Option SV->St
 |some (.v (.slice none 0 0)) =>⟨t,cm h id (.cells (l.set off (.os h.length)))++[.row k []]⟩|_=>⟨t,h⟩
def acP (k:Tag)(id off:Nat)(t:List (Nat×SV))(h:List Ob):Ob->St
 | .cells l=>YM k id off t h l (nth l off)|_=>⟨t,h⟩
def YN (k:Tag)(j:Nat)(t:List (Nat×SV))(h:List Ob):SV->St
 | .ptr id off=>acP k id (off+j) t h (ap h id)|_=>⟨t,h⟩
def MJ (k:Tag):ResultVar->List (Nat×SV)->List Ob->St
 | .tmp i,t,h=>VJ k i t h (lk i t)| .cell i j,t,h=>YN k j t h (lk i t)
def Kl:List (ResultVar×Tag)->St->St
 | [],st=>st|x::r,st=>Kl r (MJ x.2 x.1 st.t st.h)
def YO (k:Tag)(r:ResultVar)(st:St):apT st (MJ k r st.t st.h):=by
 obtain⟨t,h⟩:=st;cases r with
 |tmp i=>
  show apT _ (VJ k i t h (lk i t));unfold VJ;split
  rename_i e;exact .slot _ (.refl _) e (.inl ⟨_,rfl⟩);exact .refl _
 |cell i j=>
  show apT _ (YN k j t h (lk i t));unfold YN;split
  unfold acP;split
  rename_i e;unfold YM;split
  rename_i E;exact .cell _ (.refl _) e (by grind [gu]) (.inl ⟨_,rfl⟩);exact .refl _;exact .refl _;exact .refl _
theorem apT.trans {a b c:St}(h1:apT a b)(h2:apT b c):apT a c:=by
 induction h2 with
 |refl=>exact h1|cell o _ O V U E=>exact .cell o E O V U|slot o _ O U E=>exact .slot o E O U|aqV k _ O E=>exact .aqV k E O
def acQ (l:List (ResultVar×Tag)):∀ st,apT st (Kl l st):=by
 induction l with
 |nil=>exact λst=>.refl _
 |cons x r E=>exact λst=>(YO x.2 x.1 st).trans (E _)
def MK (l:List (ResultVar×Tag))(rs:List ResultVar)(ts:Tis)(post:SV->Prop)(pp:Value->Prop):Ex->St->Prop
 | .exit _,_=>False| .normal,st=>iK post (Em true rs ts (Kl l st))| .ret,st=>iK post (Em true rs ts (Kl l st))| .pan x,_=>pp x
section
variable {l:List (ResultVar×Tag)}{rs:List ResultVar}{ts:Tis}{post:SV->Prop}{pp:Value->Prop}{st:St}{k:Tag}{i id off:Nat}{t:List (Nat×SV)}{h:List Ob}{m:List SV}
@[go_sem] def afv:= @MK.eq_3
@[go_sem] def YP:= @MK.eq_2
@[go_sem] def afw:= @MK.eq_4
@[go_sem] def ahu:= @Kl.eq_1
@[go_sem]def afx {r:ResultVar}:Kl ((r,k)::l) ⟨t,h⟩=Kl l (MJ k r t h):=(rfl)
@[go_sem] def afy:= @MJ.eq_1
@[go_sem] def acR:= @MJ.eq_2
@[go_sem] def ahv:= @VJ.eq_1
@[go_sem]def aj9:VJ k i t h (.os id)=⟨t,h⟩:=(rfl)
@[go_sem] def ahw:= @YN.eq_1
@[go_sem] def acS:= @acP.eq_1
@[go_sem] def ahx:= @YM.eq_1
@[go_sem]def aj_:YM k id off t h m (some (.os i))=⟨t,h⟩:=(rfl)
attribute [go_sem] List.set_cons_zero
end
section
variable {P:Program}{ts:Tis}{G:Cons}
theorem VK (l:List (ResultVar×Tag)) (hm:P.follows .mixedOrders=true) (hts:ts.ok P) (hG:X2 P G) {f:FuncId} {fn:Func} {c:Code} (hf:P.funcs[f]? =some fn) (hb:fn.body=some c) (hname:(fn.name== "runtime.NumGoroutine")=false)
  (hc:cP fn.ntmps c=true) {C:List SV->Option Con}
  (h:∀ l0 O,C l0=some O->an O->l0.length<=fn.ntmps/\∃ L,ak P none fn.ntmps L c/\exec ts G L c ⟨nY 0 l0,[]⟩ (MK l fn.results.toList ts (dL O) (ke O))):zs P f C:=by
 refine⟨λl O _ args w=>?_,λl0 O X hpre F w vs hF Y=>?_⟩;simp_all [callFunc];obtain⟨hlen,L,hl,hx⟩:=h l0 O X hpre;refine sF (n:=0) (callsIn_of_wp_marks hf hb trivial ?_);have hr:W2 F { w:=w,own:=dv} fn.ntmps dv ⟨nY 0 l0,[]⟩ { tmps:=vs++Array.replicate (fn.ntmps - vs.size) undef,defers:=[]} w:=
  ⟨by have:=Y.1;simp;omega,Dfr.nil,Ae hF,Fr.refl _,λt=>qM Y _ t⟩
 refine wpIn_mono (rO hm hts hG c hc hl F _ _ hx dv _ w hr) ?_;intro e a' w' hq;have key:∀ W own st,(∀ b,F b->W b)->W2 W { w:=w,own:=dv} fn.ntmps own st a' w'->iK (dL O) (Em true fn.results.toList ts (Kl l st))->LeavesInM (rd none) 0 P fn a'.tmps
   (λe w'=>(∃ s u bn,dL O s/\e=.returned u/\Handed F w bn w' s u/\Below w.heap.size w w')\/(∃ x,ke O x/\e=.panicked [{ v:=x,recovered:=false}]/\Below w.heap.size w w')) a'.defers .returning w':=by
  intro W own0' st0 hF1 hst0 E;obtain⟨own,hst⟩:=(acQ l st0).rel hst0;generalize Kl l st0=st at hst E;refine mU hst (by simp) λw2 V=>?_;have U:=V.less hF1 rfl;unfold Em at E;cases hs:rj (pi ts st fn.results.toList)with
  |none=>
   simp only[cond_true,RX]at E;rw[hs]at E;exact E.elim
  |some s=>
   obtain⟨u,e1,e2⟩:=Ad (P:=P) hts U hs;refine⟨u,e1,.inl ?_⟩;simp only[cond_true,RX]at E;rw[hs]at E;change iK (dL O) (Cw st.h s)at E;cases hg:Cw st.h s with
   |none=>rw[hg]at E;exact E.elim
   |some s2=>
    rw[hg]at E;obtain⟨bn,hh⟩:=QR U e2 hg;exact⟨_,u,bn,E,rfl,hh,qL U.fr⟩
 cases e with
 |normal=>obtain⟨W,own,st,h0,h1,h2⟩:=hq;exact key W own st h0 h1 h2
 |ret=>obtain⟨W,own,st,h0,h1,h2⟩:=hq;exact key W own st h0 h1 h2
 |exit id=>obtain⟨W,own,st,h0,h1,h2⟩:=hq;exact h2.elim
 |panic ch=>
  obtain⟨x,W,own,st,h0,h1,h2,rfl⟩:=hq;exact mU h1 (by simp) λw2 V=>.inr ⟨x,h2,rfl,qL V.fr⟩
 |_=>exact hq.elim
end
section
universe u
variable {α:Type u}{G:List SV->α->Prop}
def apO:Option (List SV->Option α)->List SV->Option α
 |some q,r=>q r|none,_=>none
@[go_sem] def ahy:= @apO.eq_1
@[go_sem] def ahz:= @apO.eq_2
def pFn (f:Nat)(k:List SV->Option (List SV->Option α)):List SV->Option α
 | .fn g [] caps::r=>bif Nat.beq g f then apO (k caps) r else none|_=>none
def pXF (f:Nat)(k:List SV->Option (List SV->Option α)):List SV->Option α
 | .ep [.fn g [] caps] 0::r=>bif Nat.beq g f then apO (k caps) r else none|_=>none
@[go_sem] def als:= @pFn.eq_1
@[go_sem] def alt:= @pXF.eq_1
variable {r:List SV}
theorem Q3{o:Option (List SV->Option α)}{c:α}(h:apO o r=some c):∃ q,o=some q/\q r=some c:=by
 cases o with
 |none=>cases h|some q=>exact⟨q,rfl,h⟩
variable {f:Nat}{k:List SV->Option (List SV->Option α)}
theorem mr(h:∀ caps q,k caps=some q->∀ l c,q l=some c->G (.fn f [] caps::l) c):∀ l c,pFn f k l=some c->G l c:=λl c hc=>by
 unfold pFn at hc;split at hc
 rename_i g caps r;cases E:Nat.beq g f with
 |false=>rw[E]at hc;cases hc
 |true=>
  rw[E]at hc;obtain⟨q,h1,h2⟩:=Q3 hc;have:=alH E;subst this;exact h caps q h1 r c h2
 cases hc
theorem Ai(h:∀ caps q,k caps=some q->∀ l c,q l=some c->G (.ep [.fn f [] caps] 0::l) c):∀ l c,pXF f k l=some c->G l c:=λl c hc=>by
 unfold pXF at hc;split at hc
 rename_i g caps r;cases E:Nat.beq g f with
 |false=>rw[E]at hc;cases hc
 |true=>
  rw[E]at hc;obtain⟨q,h1,h2⟩:=Q3 hc;have:=alH E;subst this;exact h caps q h1 r c h2
 cases hc
def pFB (f:Nat)(k:List SV->Option (List SV->Option α)):List SV->Option α
 | .fn g caps []::r=>bif Nat.beq g f then apO (k caps) r else none|_=>none
def ahA (f:Nat)(k:List SV->Option (List SV->Option α)):List SV->Option α
 | .ep [.fn g caps []] 0::r=>bif Nat.beq g f then apO (k caps) r else none|_=>none
@[go_sem] def alu:= @pFB.eq_1
@[go_sem] def aka:= @ahA.eq_1
variable {g:Nat}{c:List SV}{x:SV}
def alv{b:List SV}:pFB f k (.fn g b (x::c)::r)=none:=(rfl)
def akb{b:List SV}:ahA f k (.ep [.fn g b (x::c)] 0::r)=none:=(rfl)
def alw{b:List SV}:pFn f k (.fn g (x::b) c::r)=none:=(rfl)
def alx{b:List SV}:pXF f k (.ep [.fn g (x::b) c] 0::r)=none:=(rfl)
attribute[go_sem]alv akb alw alx
end
def pXX {α:Type 1}(t:Tag)(k:t.T->List SV->Option α):List SV->Option α
 | .ep [s] 0::r=>pX t k (s::r)|_=>none
@[go_sem] def ahB:= @pXX.eq_1
def vr {α:Type 1}{G:List SV->α->Prop}{t:Tag}{k:List t.T->List SV->Option α}(h:∀ n l c,k n l=some c->G (.ep [.rs t n] 0::l) c):∀ l c,pXR t k l=some c->G l c:=λl c hc=>by
 obtain⟨n,r,rfl,h1⟩:=YJ hc;exact h n r c h1
def cl3 {p:Prop}(h:p:=by((repeat' (first|with_reducible refine And.intro ?_ ?_|((with_reducible show _≠_);first|assumption|omega|(simp_all [ci,d8];done) |grind) |with_reducible intro _)) <;>(first|done|assumption|rfl|omega|exact cl|(simp_all only[UZ,U0,amr,Sum.inl.injEq,forall_eq',forall_const,true_imp_iff,cond_true,cond_false,and_self];done)))):p:=h
def ML (k:Tag)(K:List k.T->Option apd):List Ob->Option apd
 | [.row k' l] =>if h:k'=k then K (h▸l)else none|_=>none
@[go_sem]def akc {k:Tag}{K:List k.T->Option apd}{l:List k.T}:ML k K [.row k l]=K l:=by simp[ML]
def MM {k:Tag}{K:List k.T->Option apd}{h:List Ob}{c:apd}(E:ML k K h=some c):∃ l,h=[.row k l]/\K l=some c:=by
 unfold ML at E;split at E;split at E
 rename_i e;subst e;exact⟨_,rfl,E⟩;cases E;cases E
end Go.Sx
end
section
namespace Go.Sx
open Go.Proofs
open IntKind (i64)
def Fa (x:Int×Int):List SV:=[.v (.int .i64 x.1),.v (.int .i64 x.2)]
def Aj (H:Nat):Nat->List (Int×Int)
 |0=>[]
 |r+1=>((List.range H).map λh:Nat=>((r:Int),(h:Int)))++Aj H r
def dz (d:ah):List (Int×Int):=Aj d.hours.toNat d.reaches.length
def aat {j:Nat}(E:j<=aH):i64.wrap ((j:Int) - 1)=(j:Int) - 1:=by unfold aH at E;exact aA (by omega) (by omega)
@[go_sem] def mu:List SV->Option Con:=pD .al λd=>pE (.det True (.fn 245 [] [.ep (cellsOf .al d) 0]))
def Ak:zs Tryz.prog 169 mu:=by
 have hG:X2 Tryz.prog (mkG [] []):=oz C1 C1;refine Bq [.o] mixed aB hG (fn:=Tryz.f169) (c:=ae Tryz.f169) kr kr kr kr (ax λl=>am λE=>?_);refine⟨Y2 rfl,L0,ag _,?_⟩;unfold ae Tryz.f169;simp only[go_sem,oA,oB,Nat.reduceBEq,Nat.reduceLeDiff,Nat.reduceAdd,Nat.reduceSub,Nat.reduceMul]
def YQ {α:Type}{l m:List α}{x:α}{k:Nat}(h:l.drop k=x::m):l[k]? =some x/\k+1<=l.length/\l.drop (k+1)=m:=by
 have E:(l.drop k)[0]? =l[k]?:=by grind
 rw[h]at E;refine⟨E.symm,?_,by rw[<-aoK,h];rfl⟩;grind
def Ho (r H h:Nat):List (Int×Int):=((List.range' h (H - h)).map λh:Nat=>((r:Int),(h:Int)))
variable {r H:Nat}
theorem uK{h:Nat}(E:h<H):Ho r H h=((r:Int),(h:Int))::Ho r H (h+1):=by
 unfold Ho;rw[show H - h=(H - (h+1))+1 by omega,am9];rfl
theorem Fb:Ho r H H=[]:=by simp[Ho]
theorem Al:Aj H (r+1)=Ho r H 0++Aj H r:=by
 grind [Ho,Aj,List.range_eq_range']
open Classical in
theorem SJ (d:ah)(hH:d.hours<9223372036854775808):Af Tryz.prog 245 (λy=>[y,.ep (cellsOf .al d) 0]) [] ((dz d).map Fa):=by
 unfold dz;generalize hI:(Aj d.hours.toNat d.reaches.length).map Fa=items;refine QW (λr hr hy=>?_) (λargs w=>by kernel_rfl);have hG:X2 Tryz.prog (Ag [] [] (itY items r)):=DQ (by simp) (by simp) hy;refine⟨λl h=>if l=[.os 0,.ep (cellsOf .al d) 0]/\h=[.ab (r 1)]then some { α:=Nat,pre:=True,post:=λj=>j=0\/j=items.length+1,res:=λj=>.ret (.tup []) [.ab (r j)]}else none,
  ?_,_,if_pos ⟨rfl,rfl⟩,trivial,λj hj=>⟨_,j,_,rfl,hj⟩⟩
 refine oy mixed aB hG (fn:=Tryz.f245) (c:=ae Tryz.f245) kr kr kr kr λl o con h V=>?_;split at h
 rotate_left
 cases h;rename_i hlo;obtain⟨rfl,rfl⟩:=hlo;cases h;refine⟨Y2 rfl,λid st=>bif Nat.beq id 0 then some { α:=Bool,pre:=lk 0 st.t=.os 0/\lk 1 st.t=.ep (cellsOf .al d) 0/\lk 3 st.t=.v (.int .i64 ((d.reaches.length:Int) - 1))/\st.h=[.ab (r 1)]/\d.reaches.length<=aH,post:=λ_=>True,ex:=λb=>bif b then .normal else .ret,out:=λb=>⟨[],[.ab (r (bif b then items.length+1 else 0))]⟩:apN}else none,?_,?_⟩
 ·unfold ae Tryz.f245;simp only[ak,true_and,and_true];refine wV mixed aB hG kr λst lc X V=>?_;simp only[go_sem,Nat.reduceBEq,alK]at X;subst X;obtain⟨t,h⟩:=st;dsimp only at V;obtain⟨h0,h1,h2,rfl,hm⟩:=V;refine⟨Nat×Nat,λx=>⟨[(0,.os 0),(1,.ep (cellsOf .al d) 0),(3,.v (.int .i64 ((x.2:Int) - 1)))],[.ab (r (x.1+1))]⟩,λx=>x.2<=d.reaches.length/\items.drop x.1=(Aj d.hours.toNat x.2).map Fa/\x.1<=items.length,λx=>x.2,(0,d.reaches.length),[0],⟨alJ _,hI.symm,ame _⟩,alJ _,?_,?_⟩;simp only[go_sem,h0,h1,h2,Nat.reduceBEq,Nat.reduceLeDiff,Nat.reduceAdd,true_and,and_true];rfl
  ·rintro⟨k,j⟩ ⟨hj,O,W⟩;simp only at hj O W;cases j with
   |zero=>
    refine⟨L0,_,ag _,λ_ _ q=>q,?_⟩;simp only[go_sem,E7 hr,true_imp_iff,decide_eq_true_eq,alO,false_imp_iff,Nat.reduceBEq,Nat.reduceLeDiff,Nat.reduceAdd,Nat.reduceSub,Nat.reduceMul,true_and,and_true,implies_true];refine⟨λhn=>absurd hn (by decide),λhn=>?_⟩;have hlen:(Aj d.hours.toNat 0).length=items.length - k:=by grind [List.length_map]
    have:(Aj d.hours.toNat 0).length=0:=rfl;refine⟨true,[0],?_⟩;have e:items.length+1=k+1:=by omega
    simp only[go_sem,e,Nat.reduceBEq,Nat.reduceLeDiff,Nat.reduceAdd,true_and,and_true];rfl
   |succ j=>
    have ej:((j+1:Nat):Int) - 1=(j:Int):=by omega
    have hw:i64.wrap ((j:Int) - 1)=(j:Int) - 1:=aat (by omega);simp only[ej];refine⟨λid st=>bif Nat.beq id 2 then some { α:=Nat×Bool,pre:=lk 0 st.t=.os 0/\lk 1 st.t=.ep (cellsOf .al d) 0/\lk 3 st.t=.v (.int .i64 (j:Int))/\lk 14 st.t=.v (.int .i64 d.hours)/\lk 15 st.t=.v (.int .i64 0)/\st.h=[.ab (r (k+1))],post:=λx=>x.2=true->items.drop x.1=(Aj d.hours.toNat j).map Fa/\x.1<=items.length,ex:=λb=>bif b.2 then .normal else .ret,out:=λb=>⟨[(0,.os 0),(1,.ep (cellsOf .al d) 0),(3,.v (.int .i64 (j:Int)))],[.ab (r (bif b.2 then b.1+1 else 0))]⟩:apN}else none,_,?_,λ_ _ q=>q,?_⟩
    ·simp only[ak,true_and,and_true];refine wV mixed aB hG kr λst lc X V=>?_;simp only[go_sem,Nat.reduceBEq,alK]at X;subst X;obtain⟨t,h⟩:=st;dsimp only at V;obtain⟨i0,i1,i3,i14,i15,rfl⟩:=V;refine⟨Nat×Nat,λx=>⟨[(0,.os 0),(1,.ep (cellsOf .al d) 0),(3,.v (.int .i64 (j:Int))),(14,.v (.int .i64 d.hours)),(15,.v (.int .i64 (x.2:Int)))],[.ab (r (x.1+1))]⟩,λx=>x.2<=d.hours.toNat/\items.drop x.1=(Ho j d.hours.toNat x.2++Aj d.hours.toNat j).map Fa/\x.1<=items.length,λx=>d.hours.toNat - x.2,(k,0),[0],⟨ame _,by rw[O,Al],W⟩,alJ _,?_,?_⟩;simp only[go_sem,i0,i1,i3,i14,i15,Nat.reduceBEq,Nat.reduceLeDiff,Nat.reduceAdd,true_and,and_true];grind
     ·rintro⟨k,g⟩ ⟨hg,E,W⟩;simp only at hg E W;refine⟨L0,_,ag _,λ_ _ q=>q,?_⟩;simp only[go_sem,E7 hr,true_imp_iff,decide_eq_true_eq,alO,false_imp_iff,Nat.reduceBEq,Nat.reduceLeDiff,Nat.reduceAdd,Nat.reduceSub,Nat.reduceMul,true_and,and_true,implies_true];refine⟨λhlt=>?_,λhge=>?_⟩
      ·have U:g<d.hours.toNat:=by omega
       rw[uK U,al7,amu]at E;obtain⟨q1,q2,q3⟩:=YQ E;have hw2:i64.wrap ((g:Int)+1)=((g+1:Nat):Int):=QY U hH;refine⟨q1,⟨(k+1,g+1),[0],⟨U,q3,q2⟩,by omega,?_⟩,⟨(0,false),[0],(λh=>nomatch h),rfl,?_⟩,(λh=>nomatch h)⟩;all_goals simp only[go_sem,hw2,Nat.reduceBEq,Nat.reduceLeDiff,Nat.reduceAdd,true_and,and_true]
       all_goals (first|done|decide|(repeat' (first|refine And.intro ?_ ?_|rfl|decide)))
      ·have Y:g=d.hours.toNat:=by
        grind
       subst Y;rw[Fb,alR]at E;refine⟨(k,true),[0],λ_=>⟨E,W⟩,rfl,?_⟩;all_goals simp only[go_sem,Nat.reduceBEq,Nat.reduceLeDiff,Nat.reduceAdd,true_and,and_true]
       grind
    ·simp only[go_sem,true_imp_iff,decide_eq_true_eq,alO,false_imp_iff,Nat.reduceBEq,Nat.reduceLeDiff,Nat.reduceAdd,Nat.reduceSub,Nat.reduceMul,true_and,and_true,implies_true];refine⟨λ_ b hb=>?_,λhn=>absurd (Int.natCast_nonneg j) (by grind)⟩;obtain⟨k',b⟩:=b;cases b with
     |true=>
      obtain⟨q1,q2⟩:=hb rfl;simp only[go_sem,hw,Nat.reduceBEq,Nat.reduceLeDiff,Nat.reduceAdd,true_and,and_true];refine⟨(k',j),[0],⟨by omega,q1,q2⟩,Nat.lt_succ_self _,?_⟩;all_goals simp only[go_sem,hw,Nat.reduceBEq,Nat.reduceLeDiff,Nat.reduceAdd,true_and,and_true]
      rfl
     |false=>
      simp only[go_sem,Nat.reduceBEq,Nat.reduceLeDiff,Nat.reduceAdd,true_and,and_true];refine⟨false,[0],rfl,?_⟩;all_goals simp only[go_sem,hw,Nat.reduceBEq,Nat.reduceLeDiff,Nat.reduceAdd,true_and,and_true]
      rfl
 unfold ae Tryz.f245;simp only[go_sem,true_imp_iff,decide_eq_true_eq,Nat.reduceBEq,Nat.reduceLeDiff,Nat.reduceAdd,Nat.reduceSub,Nat.reduceMul,true_and,and_true,implies_true];intro hm;rw[aat hm];refine⟨⟨rfl,hm⟩,λb=>?_⟩;cases b;simp only[go_sem];exact⟨0,_,_,[0],.inl rfl,rfl,alJ 1,by simp only[go_sem,Nat.reduceBEq,Nat.reduceLeDiff,Nat.reduceAdd,true_and,and_true];rfl⟩;simp only[go_sem];exact⟨items.length+1,_,_,[0],.inr rfl,rfl,alJ 1,by simp only[go_sem,Nat.reduceBEq,Nat.reduceLeDiff,Nat.reduceAdd,true_and,and_true];rfl⟩
@[go_sem] def Fc:List SV->Option Con:=pR .order λl=>pE (.det (l.length*32<=dI) (.nw .order l))
theorem C8:zs Tryz.prog 168 Fc:=by
 have hG:X2 Tryz.prog (mkG [] []):=oz C1 C1;refine VK [(.tmp 2,.order)] mixed aB hG (fn:=Tryz.f168) (c:=ae Tryz.f168) kr kr kr kr (bD λl=>am λE=>?_);dsimp only[an]at E;refine⟨Y2 rfl,L0,ag _,?_⟩;unfold ae Tryz.f168;simp only[go_sem,Nat.reduceBEq,Nat.reduceLeDiff,Nat.reduceAdd,Nat.reduceSub,Nat.reduceMul,Int.reduceLE,Int.reduceLT,Int.reduceToNat,Int.reduceNeg,reduceCtorEq];intro b O;refine⟨λh=>?_,λ_=>⟨E,λ_=>rfl⟩⟩;have U:=O h;subst U;rfl
def upL (d:ah):Nat->Int->List Int
 |0,_=>[]|f+1,n=>if 0<=n then n::upL d f (d.reaches.getD n.toNat (et .reach)).up else []
def MN (d:ah):Nat->Int->Prop
 |0,n=>n<0|f+1,n=>0<=n->n<d.reaches.length/\MN d f (d.reaches.getD n.toNat (et .reach)).up
def eb (d:ah)(n:Int):List Int:=upL d (n.toNat+1) n
def n_ (d:ah)(n:Int):Prop:=MN d (n.toNat+1) n
variable {d:ah}{f:Nat}{n:Int}
theorem VL(h:MN d f n)(O:0<=n):∃ E,f=E+1/\n<d.reaches.length/\MN d E (d.reaches.getD n.toNat (et .reach)).up/\upL d f n=n::upL d E (d.reaches.getD n.toNat (et .reach)).up:=by
 cases f with
 |zero=>grind [MN]
 |succ E=>
  obtain⟨h1,h2⟩:=h O;simp_all [upL]
theorem DS(E:¬0<=n):upL d f n=[]:=by
 cases f with
 |zero=>rfl|succ O=>rw[upL,if_neg E]
def MO (x:Int):List SV:=[.v (.int .i64 x)]
@[go_sem] def CF:List SV->List Ob->Option apd:=λl h=>noH h ((pD .al λd=>pI λn=>pE (ft True (.fn 234 [] [.ptr 0 0,.ptr 1 0]) [.cells [.v (.int .i64 n)],.cells (cellsOf .al d)])) l)
theorem Km:ape Tryz.prog 160 CF:=by
 have hG:X2 Tryz.prog (mkG [] []):=oz C1 C1;refine oy mixed aB hG (fn:=Tryz.f160) (c:=ae Tryz.f160) kr kr kr kr λl o E h U=>?_;unfold CF at h;obtain⟨rfl,h⟩:=QV h;obtain⟨n,l0,rfl,O⟩:=Kh h;obtain⟨d,l1,rfl,h1⟩:=UV O;obtain⟨rfl,rfl⟩:=wW h1;refine⟨Y2 rfl,L0,ag _,?_⟩;unfold ae Tryz.f160;simp only[go_sem,Nat.reduceBEq,Nat.reduceLeDiff,Nat.reduceAdd,Nat.reduceSub,Nat.reduceMul];refine⟨(),_,_,[1,0],trivial,rfl,?_⟩;simp only[go_sem,Nat.reduceBEq,Nat.reduceLeDiff,Nat.reduceAdd,true_and,and_true];grind
open Classical in
theorem ahC (d:ah)(n0:Int)(U:n_ d n0):Af Tryz.prog 234 (λy=>[y,.ptr 1 0,.ptr 2 0]) [.cells [.v (.int .i64 n0)],.cells (cellsOf .al d)] ((eb d n0).map MO):=by
 unfold n_ at U;unfold eb;generalize hI:(upL d (n0.toNat+1) n0).map MO=items;refine QW (λr hr hy=>?_) (λargs w=>by kernel_rfl);have hG:X2 Tryz.prog (Ag [] [] (itY items r)):=DQ (by simp) (by simp) hy;refine⟨λl h=>if l=[.os 0,.ptr 1 0,.ptr 2 0]/\h=[.ab (r 1),.cells [.v (.int .i64 n0)],.cells (cellsOf .al d)]then some { α:=Nat,pre:=True,post:=λj=>j=0\/j=items.length+1,res:=λj=>.ret (.tup []) [.ab (r j),.dead,.dead]}else none,
  ?_,_,if_pos ⟨rfl,rfl⟩,trivial,λj W=>⟨_,j,_,rfl,W⟩⟩
 refine oy mixed aB hG (fn:=Tryz.f234) (c:=ae Tryz.f234) kr kr kr kr λl o con h hp=>?_;split at h
 rotate_left
 cases h;rename_i Y;obtain⟨rfl,rfl⟩:=Y;cases h;refine⟨Y2 rfl,λid st=>bif Nat.beq id 0 then some { α:=Nat×Bool,pre:=lk 0 st.t=.os 0/\lk 1 st.t=.ptr 1 0/\lk 2 st.t=.ptr 2 0/\st.h=[.ab (r 1),.cells [.v (.int .i64 n0)],.cells (cellsOf .al d)],post:=λj=>j.1=0\/j.1=items.length+1,ex:=λj=>bif j.2 then .ret else .normal,out:=λj=>⟨[],[.ab (r j.1),.dead,.dead]⟩:apN}else none,?_,?_⟩
 ·unfold ae Tryz.f234;simp only[ak,true_and,and_true];refine wV mixed aB hG kr λst lc hC hp=>?_;simp only[go_sem,Nat.reduceBEq,alK]at hC;subst hC;obtain⟨t,h⟩:=st;dsimp only at hp;obtain⟨h0,h1,h2,rfl⟩:=hp;refine⟨Nat×Nat×Int,λx=>⟨[(0,.os 0),(1,.ptr 1 0),(2,.ptr 2 0)],[.ab (r (x.1+1)),.cells [.v (.int .i64 x.2.2)],.cells (cellsOf .al d)]⟩,λx=>MN d x.2.1 x.2.2/\items.drop x.1=(upL d x.2.1 x.2.2).map MO/\x.1<=items.length,λx=>x.2.1,(0,n0.toNat+1,n0),[0,1,2],⟨U,hI.symm,ame _⟩,alJ _,?_,?_⟩;simp only[go_sem,h0,h1,h2,Nat.reduceBEq,Nat.reduceLeDiff,Nat.reduceAdd,true_and,and_true];decide
  ·rintro⟨k,f,n⟩ ⟨hf,E,hk⟩;simp only at hf E hk;refine⟨L0,_,ag _,λ_ _ q=>q,?_⟩;simp only[go_sem,E7 hr,true_imp_iff,decide_eq_true_eq,alO,false_imp_iff,Nat.reduceBEq,Nat.reduceLeDiff,Nat.reduceAdd,Nat.reduceSub,Nat.reduceMul,true_and,and_true,implies_true];have O:(upL d f n).length=items.length - k:=by grind [List.length_map]
   refine⟨λhn=>?_,λhn=>?_⟩
   ·obtain⟨f',rfl,e1,e2,e3⟩:=VL hf hn;have V:items[k]? =some (MO n):=by
     have:(items.drop k)[0]? =items[k]?:=by grind
     grind
    rw[e3]at E O;have hk1:k+1<=items.length:=by grind
    have hd':items.drop (k+1)=(upL d f' (d.reaches.getD n.toNat (et .reach)).up).map MO:=by rw[<-aoK,E];rfl
    refine⟨V,⟨⟨hn,e1⟩,(k+1,f',(d.reaches.getD n.toNat (et .reach)).up),[0,1,2],⟨e2,hd',hk1⟩,Nat.lt_succ_self _,?_⟩,⟨(0,true),[0,1,2],.inl rfl,rfl,?_⟩,λh=>nomatch h⟩;all_goals simp only[go_sem,Nat.reduceBEq,Nat.reduceLeDiff,Nat.reduceAdd,true_and,and_true]
    all_goals (first|done|decide|(repeat' (first|refine And.intro ?_ ?_|rfl|decide)))
   have X:¬0<=n:=by grind
   rw[DS X]at O;simp at O;refine⟨(k+1,false),[0,1,2],.inr (by omega),rfl,?_⟩;simp only[go_sem,Nat.reduceBEq,Nat.reduceLeDiff,Nat.reduceAdd,true_and,and_true];decide
 unfold ae Tryz.f234;simp only[go_sem,true_imp_iff,decide_eq_true_eq,Nat.reduceBEq,Nat.reduceLeDiff,Nat.reduceAdd,Nat.reduceSub,Nat.reduceMul,true_and,and_true,implies_true];rintro⟨j,b⟩ W;cases b;simp only[go_sem];exact⟨j,_,_,[0,1,2],W,rfl,alJ 3,by simp only[go_sem,Nat.reduceBEq,Nat.reduceLeDiff,Nat.reduceAdd,true_and,and_true];decide⟩;simp only[go_sem];exact⟨j,_,_,[0,1,2],W,rfl,alJ 3,by simp only[go_sem,Nat.reduceBEq,Nat.reduceLeDiff,Nat.reduceAdd,true_and,and_true];decide⟩
def hUp (K:Int->ah->Option apd):List Ob->Option apd
 | [.cells [.v (.int .i64 n)],.cells c] =>pDo (λd _=>K n d) [] (vY .al c)
 |_=>none
@[go_sem] def aly:= @hUp.eq_1
theorem Q4 {K:Int->ah->Option apd}{h:List Ob}{c:apd}(E:hUp K h=some c):∃ n d,h=[.cells [.v (.int .i64 n)],.cells (cellsOf .al d)]/\K n d=some c:=by
 unfold hUp at E;split at E
 rename_i n cs;obtain⟨x,r,O,U⟩:=UW (t:=.al) (kd:=λd _=>K n d) (l:=[.ep cs 0]) E;simp at O;obtain⟨rfl,rfl⟩:=O;exact⟨n,x,rfl,U⟩;cases E
abbrev YR:SV:=.fn 234 [] [.ptr 0 0,.ptr 1 0]
noncomputable def iM:List SV->List Ob->Option apd:=λl h=>hUp (λn d=>pQ (.v (.slice none 0 0)) (pQ YR (pE (ft (0<=n/\n_ d n/\(eb d n).length*8<=dI) (.os 2) [.dead,.dead,.row .int (eb d n)]))) l) h
noncomputable def pC:List SV->List Ob->Option apd:=λl h=>hUp (λn d=>pQ YR (pE (ft (0<=n/\n_ d n/\(eb d n).length*8<=dI) (.os 2) [.dead,.dead,.row .int (eb d n)])) l) h
def CG:List Int->List Ob
 | [] =>[.dead,.dead,.cells [.v (.slice none 0 0)]]|x::l=>[.dead,.dead,.cells [.os 3],.row .int (x::l)]
def CH (x:Int)(l:List Int):Empty⊕List Int:=.inr (l++[x])
theorem IT:∀ (l m:List Int),di CH l m=.inr (m++l)
 | [],m=>by simp[di]
 |x::l,m=>by simp only[di,CH];rw[IT l];simp
theorem MP {B:Nat}:∀ (l m:List Int),m.length+l.length<=B->okL CH (λ_ s=>s.length+1<=B) l m
 | [],_,_=>trivial
 |x::l,m,h=>⟨by simp at h;omega,λs' E=>by
  simp only[CH,amr]at E;subst E;exact MP l _ (by simp at h |-;omega)⟩
theorem acT {d:ah}{n:Int}(E:0<=n):∃ x l,eb d n=x::l:=⟨_,_,by unfold eb;rw[upL,if_pos E]⟩
theorem zq1 {p:Prop}(h:p:=by simp only[go_sem,e6]):p:=h
theorem yh:ape Tryz.prog 233 iM:=by
 have hG:X2 Tryz.prog (mkG [] []):=oz C1 C1;refine oy mixed aB hG (fn:=Tryz.f233) (c:=ae Tryz.f233) kr kr kr kr λl o con h E=>?_;unfold iM at h;obtain⟨n,d,rfl,X⟩:=Q4 h;obtain⟨l0,rfl,h1⟩:=E9 X;obtain⟨l1,rfl,h2⟩:=E9 h1;obtain⟨rfl,rfl⟩:=wW h2;obtain⟨Y,O,hB⟩:=E;refine⟨Y2 rfl,λid st=>bif Nat.beq id 0 then some (LC (ρ:=Empty) (σ:=List Int) (lk 2 st.t=.ptr 2 0/\lk 6 st.t=YR/\st.h=[.cells [.v (.int .i64 n)],.cells (cellsOf .al d),.cells [.v (.slice none 0 0)]]) (di CH (eb d n) []) (·.elim) (·.elim) (λs=>⟨[(2,.ptr 2 0)],CG s⟩))else none,?_,?_⟩
 ·unfold ae Tryz.f233;simp only[ak,true_and,and_true];refine se mixed aB hG (by decide) (by decide) kr kr λst lc W E=>?_;simp only[go_sem,Nat.reduceBEq,alK]at W;subst W;obtain⟨t,h⟩:=st;dsimp only[LC]at E;obtain⟨e2,e6,rfl⟩:=E;refine⟨234,[.ptr 0 0,.ptr 1 0],Int,_,_,eb d n,MO,CH,λ_ s=>s.length+1<=(eb d n).length,_,[],_,_,_,[(2,.ptr 2 0)],CG,(·.elim),[0,1,2],?_,rfl,MP _ _ (by simp),Y2 rfl,?_,?_,λx s hq=>⟨rfl,L0,λl=>ag _,λl=>ag _,?_⟩,λs=>?_,λy=>y.elim⟩;exact zq1
  ·simp only[go_sem,sI,jR,al5,amR,alR,al3,amL,CG,e2,Nat.reduceBEq,Nat.reduceLeDiff,Nat.reduceAdd];all_goals (first|done|decide|(repeat' (first|refine And.intro ?_ ?_|rfl|decide)))
  exact ahC d n O;have U:(s++[x]).length*8<=dI:=by simp;omega
  cases s with
  |nil=>
   simp only[go_sem,psT,MO,CG,CH,al7,alR,Nat.reduceBEq,Nat.reduceLeDiff,Nat.reduceAdd,Nat.reduceSub,Nat.reduceMul];exact⟨by simpa using U,λ_=>fk (jl [0,1,2,4])⟩
  |cons a m=>
   simp only[go_sem,psT,MO,CG,CH,al7,alR,Nat.reduceBEq,Nat.reduceLeDiff,Nat.reduceAdd,Nat.reduceSub,Nat.reduceMul];exact⟨by simpa using U,λ_=>fk (jl [0,1,2,5])⟩
  cases s with
  |nil=>simp only[CG];exact fk (jl [0,1,2])|cons a m=>simp only[CG];exact fk (jl [0,1,2,3])
 ·unfold ae Tryz.f233;obtain⟨x,l,V⟩:=acT (d:=d) Y;simp only[go_sem,Nat.reduceBEq,Nat.reduceLeDiff,Nat.reduceAdd,Nat.reduceSub,Nat.reduceMul,IT,V,CG,alR];refine⟨λy=>y.elim,λs hs=>?_⟩;cases hs;simp only[go_sem,Nat.reduceBEq,Nat.reduceLeDiff,Nat.reduceAdd,Nat.reduceSub,Nat.reduceMul];refine⟨(),_,_,[0,1,3],trivial,rfl,?_⟩;simp only[go_sem,V,Nat.reduceBEq,Nat.reduceLeDiff,Nat.reduceAdd,true_and,and_true];all_goals (first|done|decide|(repeat' (first|refine And.intro ?_ ?_|rfl|decide)))
theorem Am:ape Tryz.prog 159 pC:=by
 have hG:X2 Tryz.prog (mkG [] [(233,iM)]):=oz C1 (cgc yh C1);refine oy mixed aB hG (fn:=Tryz.f159) (c:=ae Tryz.f159) kr kr kr kr λl o E h O=>?_;unfold pC at h;obtain⟨n,d,rfl,U⟩:=Q4 h;obtain⟨l1,rfl,h2⟩:=E9 U;obtain⟨rfl,rfl⟩:=wW h2;refine⟨Y2 rfl,L0,ag _,?_⟩;unfold ae Tryz.f159;simp only[go_sem,iM,YR,Nat.reduceBEq,Nat.reduceLeDiff,Nat.reduceAdd,Nat.reduceSub,Nat.reduceMul];refine⟨O,(),_,_,[0,1,2],trivial,rfl,?_⟩;simp only[go_sem,Nat.reduceBEq,Nat.reduceLeDiff,Nat.reduceAdd,true_and,and_true];all_goals (first|done|decide|(repeat' (first|refine And.intro ?_ ?_|rfl|decide)))
attribute [go_sem] iM pC
end Go.Sx
end
section
namespace Go.Sx
open Go.RowKit
def pXM {α:Type 1}(t t2:Tag)(k:List (t.T×t2.T)->List SV->Option α):List SV->Option α
 | .ep [s] 0::r=>pM t t2 k (s::r)|_=>none
@[go_sem] def ahD:= @pXM.eq_1
theorem Kn {α:Type 1}{G:List SV->α->Prop}{t t2:Tag}{k:List (t.T×t2.T)->List SV->Option α}(h:∀ n l c,k n l=some c->G (.ep [.rm t t2 n] 0::l) c):∀ l c,pXM t t2 k l=some c->G l c:=λl c hc=>by
 unfold pXM at hc;split at hc
 obtain⟨x,r,e,h1⟩:=UX hc;simp only[ane]at e;obtain⟨rfl,rfl⟩:=e;exact h x _ c h1;cases hc
section
universe u
variable {α:Type u}{G:List SV->α->Prop}
def pLS (k:List SV->Option (List SV->Option α)):List SV->Option α
 | .ls 1 l::r=>apO (k l) r|_=>none
@[go_sem] def alz:= @pLS.eq_1
end
open Classical in
noncomputable def i7 {τ:Type}(A:τ->List SV)(H:τ->List Ob)(K:τ->apd):List SV->List Ob->Option apd:=λl h=>if e:∃ x,l=A x/\h=H x then some (K e.choose)else none
def VM (x:bh):(⟨x.no,x.kind,x.right,x.since,x.to,x.parts,x.of_,x.at_,x.known⟩:bh)=x:=rfl
def Ko (d:ah):(⟨d.name,d.hours,⟨d.apa.cap,d.apa.start⟩,d.reaches,d.l5,d.apg,d.ai,d.apb,d.apQ⟩:ah)=d:=rfl
theorem SK {k:Tag}{x y:k.T}:cellsOf k x=cellsOf k y↔x=y:=⟨λh=>by
 have h1:=Bg x;rw[h,Bg y]at h1;exact(Option.some.inj h1).symm,λh=>by rw[h]⟩
theorem fF {τ:Type}{A:τ->List SV}{H:τ->List Ob}{K:τ->apd}{x:τ}(E:∀ x y,A x=A y->H x=H y->x=y:=by
 intro x y h1 h2;simp only[ane,SV.agg.injEq,SV.ep.injEq,SV.v.injEq,Value.int.injEq,Value.bool.injEq,Value.string.injEq,SV.fn.injEq,SV.rs.injEq,SV.rm.injEq,Ob.row.injEq,Ob.mp.injEq,Ob.cells.injEq,Ob.apw.injEq,heq_eq_eq,SK,true_and,and_true]at h1 h2;first|exact h2|exact h1|(simp_all [Prod.ext_iff];done)):i7 A H K (A x) (H x)=some (K x):=by
 have e:∃ y,A x=A y/\H x=H y:=⟨x,rfl,rfl⟩;unfold i7;rw[dif_pos e];have:=E _ _ e.choose_spec.1 e.choose_spec.2;rw[<-this]
theorem dP {τ:Type}{A:τ->List SV}{H:τ->List Ob}{K:τ->apd}{l:List SV}{h:List Ob}{c:apd}(E:i7 A H K l h=some c):∃ x,l=A x/\h=H x/\c=K x:=by
 unfold i7 at E;split at E
 rename_i e;simp only[alK]at E;exact⟨e.choose,e.choose_spec.1,e.choose_spec.2,E.symm⟩;cases E
section
variable {P:Program}{ts:Tis}{G:Cons}{N:Nat}
theorem zi (hm:P.follows .mixedOrders=true)(hts:ts.ok P)(hG:X2 P G){id:Nat}{g:Operand}{W:Array Tmp}{assign body:Code}{C:St->Option apN}
  (X:W.toList.Nodup) (hpN:∀ p∈W.toList,p<N) (hca:cP N assign=true) (hcb:cP N body=true)
  (h:∀ E U,C E=some U->U.pre->∃ st,apT E st/\∃ (f:FuncId) (caps:List SV) (τ ρ σ:Type) (l:List τ) (Y:τ->List SV) (step:τ->σ->ρ⊕σ) (p:τ->σ->Prop) (pre:Prop) (s0:σ) (exE:ρ->Ex) (P1:ρ->St) (ao_:σ->St) (T:List (Nat×SV)) (H:σ->List Ob) (Hy:ρ->List Ob) (js:List Nat),
   raw st.t g=.fn f [] caps/\U=LC pre (di step l s0) exE P1 ao_/\okL step p l s0/\st.h.length<=(H s0).length/\Sub js st.h.length ⟨st.t,sI (jR st caps) st.h⟩ ⟨T,H s0⟩/\
   Af P f (λy=>y::caps.map (ren (Pe (jR st caps)) 3)) (Mx (jR st caps) st.h) (l.map Y)/\
   (∀ x s,p x s->(Y x).length=W.size/\∃ L,(∀ l,ak P (some l) N L assign)/\(∀ l,ak P (some l) N L body)/\exec ts G L assign ⟨psT W.toList (Y x)++T,H s⟩ (λe st1=>e=.normal/\exec ts G L body st1 (rgQ step exE T H Hy st.h.length id x s)))/\
   (∀ s,oo (ao_ s) st.h.length ⟨T,H s⟩)/\∀ y,oo (P1 y) st.h.length ⟨T,Hy y⟩):kV P none N id (.rangeFunc g W assign body) C:=by
 intro nd F w0 E U hC O own a w hr;obtain⟨st,hN,V⟩:=h E U hC O;obtain⟨bn,hr'⟩:=hN.rel hr;refine se hm hts hG X hpN hca hcb (C:=λs=>@ite _ (s=st) (Classical.propDecidable _) (some U) none) (λs l e _=>?_) nd F w0 st U (if_pos rfl) O bn a w hr';split at e
 rename_i e1;subst e1;cases e;exact V;cases e
end
def VN (n0 id:Nat):Ob->SV
 | .row k l=>bif Nat.ble n0 id then .rs k l else .any|_=>.any
def isV:SV->Bool
 | .v _=>true|_=>false
def C9 (n0:Nat)(h:List Ob):SV->SV
 | .v x=>.v x| .rs k l=>.rs k l| .agg l=>bif l.all isV then .agg l else .any| .os id=>VN n0 id (ap h id)|_=>.any
def Ph (n0:Nat)(h:List Ob):SV->SV
 | .tup l=>.tup (l.map (C9 n0 h))|s=>C9 n0 h s
def Kp (n0:Nat)(own:Own):Own:=λi=>if i<n0 then own i else none
section
variable {F:Nat->Prop}{own:Own}{w:World}{n0:Nat}{h:List Ob}
theorem wZ {b:Nat}(E:¬cH F own b):¬cH F (Kp n0 own) b:=by
 rintro (U| ⟨id,hd,e,O⟩);exact E (.inl U);unfold Kp at e;split at e
 exact E (.inr ⟨id,hd,e,O⟩);cases e
theorem MQ (W:Hp F own w h):∀ (s:SV) (v:Value),Rel F own w s v->Rel F (Kp n0 own) w (C9 n0 h s) v:=by
 intro s v V;cases s with
 |v x=>exact V.aph (.v x) λb E=>wZ E
 |rs k l=>exact V.aph .rs λb E=>wZ E
 |agg l=>
  simp only[C9];cases ha:l.all isV with
  |false=>exact .any _
  |true=>
   refine V.aph (.agg λj s U=>?_) λb E=>wZ E;have:=amc.1 ha s (alU U);cases s <;>first|exact .v _|cases this
 |os id=>
  obtain⟨hd,h1,rfl,h2⟩:=ij V;simp only[C9];cases ho:ap h id with
  |row k l=>
   simp only[VN];cases hn:Nat.ble n0 id with
   |false=>exact .any _
   |true=>
    have hn':=Y2 hn;obtain⟨hd',e0,e⟩:=W.at ho rfl;rw[h1]at e0;cases e0;have Y:∀ b∈hd.bs,¬cH F (Kp n0 own) b:=by
     rintro b E (hf| ⟨i,hi,O,X⟩);exact W.apart id hd b h1 E hf;unfold Kp at O;split at O
     rename_i hlt;have:=W.inj id i hd hi b h1 O E X;omega;cases O
    rcases e with⟨a,O,rfl,_⟩ | ⟨b,o,cap,cs,ty,O,X,h3,h4,h5,h6,h7⟩;rw[O];exact .rs0;rw[O];refine .rs (λi j=>cs.getD (o+i*aa k+j) undef) h5 h6 (λi x hi j s U=>?_) (λi x hi j s U=>?_);obtain⟨u,k1,k2⟩:=h7 i x hi j s U;refine⟨Y b (by simp[X]),?_⟩;rw[dY h3,k1];simp_all;obtain⟨u,k1,k2⟩:=h7 i x hi j s U;have:cs.getD (o+i*aa k+j) undef=u:=by simp_all
    rw[this];exact k2.aph (qI U) λb E=>wZ E
  |_=>exact .any _
 |_=>exact .any _
@[go_sem] def ahE:= @Ph.eq_1
def akd {id:Nat}:Ph n0 h (.os id)=VN n0 id (ap h id):=(rfl)
def alA {x:Value}:Ph n0 h (.v x)=.v x:=(rfl)
def ake {k:Tag}{l:List k.T}:Ph n0 h (.rs k l)=.rs k l:=(rfl)
def ahF {l:List SV}:Ph n0 h (.agg l)=bif l.all isV then .agg l else .any:=(rfl)
attribute[go_sem]akd alA ake ahF
@[go_sem] def alB:= @C9.eq_1
@[go_sem] def akf:= @C9.eq_2
@[go_sem] def ahG:= @C9.eq_3
@[go_sem] def akg:= @C9.eq_4
@[go_sem] def ahH:= @VN.eq_1
@[go_sem] def asB:= @isV.eq_1
end
def acU (pks:List Pk)(n0:Nat)(S:SV)(H:List Ob)(h:List Ob):Option SV->Prop
 |some s=>S=wX pks (Ph n0 h s)/\oo ⟨[],H⟩ n0 ⟨[],h⟩|none=>False
def aau (pks:List Pk)(n0:Nat)(rs:List ResultVar)(ts:Tis)(S:SV)(H:List Ob):Ex->St->Prop
 | .exit _,_=>False| .normal,st=>acU pks n0 S H st.h (rj (pi ts st rs))| .ret,st=>acU pks n0 S H st.h (rj (pi ts st rs))| .pan _,_=>False
section
variable {P:Program}{ts:Tis}{G:Cons}{n0:Nat}{S s:SV}{H h:List Ob}{rs:List ResultVar}{st:St}{pks:List Pk}
@[go_sem] def afz:= @acU.eq_1
@[go_sem] def YS:= @aau.eq_2
@[go_sem] def afA:= @aau.eq_3
end
def ahI (h:List Ob):Option Con->Option apd
 |some (.det p s) =>some (ft p (Ph 0 (aS 3 s) (iE 3 0 s)) (h.map λ_=>.dead))
 |_=>none
def ar5 (C:List SV->Option Con)(l:List SV)(h:List Ob):Option apd:=ahI h (C (l.map (fD h 6)))
@[go_sem] def akh:= @ar5.eq_1
@[go_sem] def ahJ:= @ahI.eq_1
section
variable {P:Program}{F:Nat->Prop}{own:Own}{w w':World}
def VO (own:Own):Own:=λi=>(own i).map λhd=>{ hd with bs:=[]}
theorem YT {b:Nat}(E:¬F b):¬cH F (VO own) b:=by
 rintro (O| ⟨id,hd,e,U⟩);exact E O;unfold VO at e;cases h:own id <;>grind
end
end Go.Sx
end
section
namespace Go.Sx
def ahK {te:TI}{nx:Nat}{h:List Ob}{s:SV}:ml te nx h [.any,s]=.bad:=(rfl)
def alC {t:Tag}{f:List t.T->List SV->Option Con}{l:List SV}:pR t f (.any::l)=none:=(rfl)
attribute[go_sem]ahK alC
end Go.Sx
end
section
namespace Go.Sx
universe u
section
variable {α:Type u}
def pV (k:Int->List SV->Option α):List SV->Option α
 | .v (.int .u8 n)::r=>k n r|_=>none
@[go_sem] def aki:= @pV.eq_1
variable {k:Int->List SV->Option α}{l:List SV}{c:α}
theorem acV(h:pV k l=some c):∃ n r,l=.v (.int .u8 n)::r/\k n r=some c:=by
 unfold pV at h;split at h
 exact⟨_,_,rfl,h⟩;cases h
def pW (k:Int->List SV->Option α):List SV->Option α
 | .v (.int .u16 n)::r=>k n r|_=>none
@[go_sem] def akj:= @pW.eq_1
theorem acW(h:pW k l=some c):∃ n r,l=.v (.int .u16 n)::r/\k n r=some c:=by
 unfold pW at h;split at h
 exact⟨_,_,rfl,h⟩;cases h
variable {G:List SV->α->Prop}
theorem acX(h:∀ n l c,k n l=some c->G (.v (.int .u8 n)::l) c):∀ l c,pV k l=some c->G l c:=λl c hc=>by
 obtain⟨n,r,rfl,h1⟩:=acV hc;exact h n r c h1
theorem acY(h:∀ n l c,k n l=some c->G (.v (.int .u16 n)::l) c):∀ l c,pW k l=some c->G l c:=λl c hc=>by
 obtain⟨n,r,rfl,h1⟩:=acW hc;exact h n r c h1
end
end Go.Sx
end
section
namespace Go.Sx
open Go.RowKit
def orC {α:Type 1}:Option α->Option α->Option α
 |some x,_=>some x|none,y=>y
@[go_sem] def ahL:= @orC.eq_1
@[go_sem] def ahM:= @orC.eq_2
theorem xN {α:Type 1}{a b:Option α}{c:α}(h:orC a b=some c):a=some c\/b=some c:=by
 cases a with
 |none=>exact .inr h|some x=>exact .inl h
variable {P:Program}{f:FuncId}
theorem ape.or{C D:List SV->List Ob->Option apd}(h1:ape P f C)(h2:ape P f D):ape P f (λl h=>orC (C l h) (D l h)):=
 ⟨λl h c hc=>by rcases xN hc with e|e;exact h1.enter l h c e;exact h2.enter l h c e,
  λl h c hc=>by rcases xN hc with e|e;exact h1.calls l h c e;exact h2.calls l h c e⟩
theorem zs.or{C D:List SV->Option Con}(h1:zs P f C)(h2:zs P f D):zs P f (λl=>orC (C l) (D l)):=
 ⟨λl c hc=>by rcases xN hc with e|e;exact h1.enter l c e;exact h2.enter l c e,
  λl c hc=>by rcases xN hc with e|e;exact h1.calls l c e;exact h2.calls l c e⟩
end Go.Sx
end
section
namespace Go.Sx
def acZ {α:Type}:Result α->World
 | .ok _ w=>w| .halt _ w=>w
theorem Pi {α:Type}:∀ (a:Ask α) (w:World),w.drawn<=(w.ask a).2.drawn
 | .done a,w=>alJ _
 | .ask what range k,w=>by
  unfold World.ask;dsimp only;split
  exact Pi _ w;exact alW (Nat.le_succ _) (Pi _ { w with drawn:=w.drawn+1})
theorem ac0 (w:World)(c:Sys):w.drawn<=(w.sys c).2.drawn:=by
 unfold World.sys;have:=Pi (Kernel.perform c w.os) w;grind
variable {p:Program}{w:World}{v:Value}
theorem MR{w':World}{a:Addr}{b:Bool}{l:List Addr}(h:w.farStore p a v b=.ok (w',l)):w'.drawn=w.drawn:=by
 unfold World.farStore at h;split at h
 ·split at h
  ·rename_i r E;cases h;unfold World.viewStore at E;simp only[bind,Except.bind,pure,Except.pure]at E
   repeat' split at E
   all_goals (first|(cases E;done) |skip)
   all_goals (cases E;rfl)
  cases h
 cases h
variable {α:Type}
theorem Kq(p:Program):∀ (s:Sem α) (w:World),w.drawn<=(acZ (s.run p w)).drawn:=by
 intro s;induction s with
 |pure a=>intro w;exact alJ _
 |load m a k E=>
  intro w;unfold Sem.run;split
  exact E _ w;split
  exact E _ w;exact alJ _
 |store m a v k E=>
  intro w;cases v
  case agg=>exact alJ _
  case tuple=>exact alJ _
  all_goals
   simp only[Sem.run];split
   split
   exact alJ _;exact E (w.setCell a _);split
   rename_i h;rw[<-MR h];exact E _;exact alJ _
 |new o k E=>intro w;exact E w.heap.size { w with heap:=w.heap.push o}
 |shape r k E=>intro w;exact E _ _
 |freeze a n k E=>
  intro w;have:(w.freeze a n).drawn=w.drawn:=by grind [World.freeze]
  rw[<-this];exact E _
 |frozen a k E=>intro w;exact E _ _
 |getObj r k E=>
  intro w;unfold Sem.run;split
  exact alJ _;exact E _ _;exact alJ _
 |setObj r o k E=>
  intro w;unfold Sem.run;split
  exact alJ _;grind
  exact alJ _
 |choose q k E=>
  grind [Sem.run]
 |sys c k E=>intro w;exact alW (ac0 w c) (E _ _)|program k E=>intro w;exact E _ _|mark m k E=>intro w;exact E _|halt h=>intro w;exact alJ _
theorem VP(p:Program):∀ (s:Sem α) (w:World) (es:Array Event),(s.runT p w es).1=s.run p w:=by
 simp_all
theorem lH{s:Sem α}{w':World}{a:α}(h:s.run p w=.ok a w'):w.drawn<=w'.drawn:=by have:=Kq p s w;rw[h]at this;exact this
theorem VQ{s:Sem α}{w':World}{a:Halt}(h:s.run p w=.halt a w'):w.drawn<=w'.drawn:=by have:=Kq p s w;rw[h]at this;exact this
theorem rQ{s:Sem α}{es E:Array Event}{r:Result α}(h:s.runT p w es=(r,E)):w.drawn<=(acZ r).drawn:=by
 have:=VP p s w es;rw[h]at this;have h2:=Kq p s w;grind
def gLe (w:World):GStep->Prop
 | .ended .. =>True| .go _ w' _| .comm _ _ _ _ w' _| .spawn _ _ w' _| .count _ w' _| .timer _ _ w' _| .alone _ _ w' _| .newcoro _ _ _ w' _| .coroswitch _ _ _ w' _| .collect _ w' _| .watch _ w' _=>w.drawn<=w'.drawn
theorem gLe.after{es:Array Event}{s:GStep}(h:gLe w s):gLe w (s.after es):=by cases s <;>exact h
theorem gLe.trans{w':World}{s:GStep}(h1:w.drawn<=w'.drawn)(h:gLe w' s):gLe w s:=by cases s <;>first|trivial|exact alW h1 h
theorem DT{c:Prop}[Decidable c]{a b:GStep}(h1:gLe w a)(h2:gLe w b):gLe w (if c then a else b):=by grind
def tW (fr:Frame)(m:String)(w:World):gLe w (endThrow fr m w):=alJ _
theorem w7 (p:Program)(fr:Frame)(v:Value)(w:World):gLe w (endPrinting p fr v w):=by
 unfold endPrinting;dsimp only;split
 exact tW _ _ _;trivial
theorem CI (p:Program)(fr:Frame)(E:List Frame)(O:Option Dying)(m:String)(w:World):gLe w (endFatal p fr E O m w):=by
 unfold endFatal
 extract_lets
 split
 rename_i h;exact lH h;trivial;trivial
theorem Pj (p:Program)(fr:Frame)(d:Dying)(f:Fatal)(w:World):gLe w (writeOn p fr d f w):=by
 unfold writeOn
 extract_lets
 split
 trivial
 extract_lets
 generalize h:Sem.runT _ _ _ _=rr;obtain⟨r,es⟩:=rr;have h:=rQ h;split
 rename_i e;cases e;exact h;rename_i e;cases e;exact h;trivial;trivial
theorem Pm (w w':World)(fd:Nat)(t:ByteArray)(o:Outcome):gLe w (endWith w' fd t o):=by
 unfold endWith
 extract_lets
 split
 split <;>trivial
 trivial;trivial
theorem ac1 (p:Program)(fr:Frame)(d:Dying)(w:World):gLe w (die p fr d w):=by
 unfold die;split
 exact Pj _ _ _ _ _
 ·split
  split
  exact alJ _;exact Pm _ _ _ _ _
  ·extract_lets
   split
   exact alJ _;split
   rename_i h;exact lH h;trivial
   ·split
    rename_i h;have h:=rQ h;refine gLe.after ?_;split
    all_goals first|exact h|trivial|exact gLe.trans h (w7 _ _ _ _)
   trivial
theorem w8 (p:Program)(U:Bool)(fr:Frame)(E:List Frame)(O:Option Dying)(v:Value)(w:World):gLe w (doReturn p U fr E O v w):=by
 unfold doReturn;split
 ·split
  all_goals exact alJ _
 split
 exact alJ _;trivial;split
 exact alJ _;split
 exact alJ _;trivial
theorem C_ (p:Program)(fr:Frame)(E:List Frame)(O:Option Dying)(d:Deferred)(w:World):gLe w (callDeferred p fr E O d w):=by
 unfold callDeferred;refine DT trivial ?_;rcases h:(invoke d.target d.args).runT p w #[]with⟨r,es⟩;have h:=rQ h;dsimp only;refine gLe.after ?_;split
 all_goals first|exact h|trivial|exact gLe.trans h (CI _ _ _ _ _ _) |exact gLe.trans h (tW _ _ _) |skip
 split <;>exact h
theorem SL (p:Program)(U:Bool)(fr:Frame)(E:List Frame)(O:Option Dying)(w:World):gLe w (unwind p U fr E O w):=by
 unfold unwind;split
 split
 rename_i h;have h:=rQ h;refine gLe.after ?_;split
 exact h;trivial;exact C_ _ _ _ _ _ _;split
 trivial;split
 trivial;split
 exact alJ _;split
 split
 exact alJ _;split
 rename_i h;exact lH h;trivial;trivial;split
 exact w7 _ _ _ _;trivial;split
 exact w8 _ _ _ _ _ _ _;split
 rename_i h;have h:=rQ h;refine gLe.after ?_;split
 exact gLe.trans h (w8 _ _ _ _ _ _ _);trivial;trivial
theorem VR (p:Program)(fr:Frame)(E:List Frame)(O:Option Dying)(g:Nat)(w:World):gLe w (early p fr E O g w):=by
 unfold early
 extract_lets refuse notYet there
 have V:∀ w0:World,w.drawn<=w0.drawn->gLe w (notYet w0):=λw0 U=>by
  show gLe w (match w0.heap[g]? with|some (.pending c elem) =>_|_=>_);split
  exact U;trivial
 split
 grind
 split
 trivial
 extract_lets there
 have W:∀ w0:World,w.drawn<=w0.drawn->gLe w (there w0):=λw0 U=>U;split
 grind
 split
 grind
 split
 trivial;grind
 trivial;grind
 split
 grind
 split
 grind
 split
 rename_i h;exact V _ (lH h);rename_i h;exact W _ (lH h);trivial
theorem w_ (p:Program)(E:Bool)(fr:Frame)(O:List Frame)(U:Option Dying)(s:Sem Next)(w:World):gLe w (Go.stepG.apply p E fr O U s w):=by
 unfold Go.stepG.apply
 extract_lets go kind
 have Y:∃ r es,(if E=true then s.runT p w #[]else(s.run p w,#[]))=(r,es)/\w.drawn<=(acZ r).drawn:=by
  split
  rcases h:s.runT p w #[]with⟨r,es⟩;exact⟨r,es,rfl,rQ h⟩;exact⟨_,_,rfl,Kq p s w⟩
 obtain⟨r,es,X,h⟩:=Y;rw[X];dsimp only;refine gLe.after ?_;have V:∀ fr w0,w.drawn<=w0.drawn->gLe w (go fr w0):=λfr w0 W=>W;split
 all_goals first|exact h|trivial|exact V _ _ h|exact gLe.trans h (CI _ _ _ _ _ _) |exact gLe.trans h (tW _ _ _) |exact gLe.trans h (VR _ _ _ _ _ _) |skip
 all_goals first|(refine DT (gLe.trans h (tW _ _ _)) ?_;exact h) |(split <;>first|exact h|trivial|exact V _ _ h)
theorem YU (p:Program)(O:Bool)(fr:Frame)(E:List Frame)(U:Option Dying)(w:World):gLe w (Go.stepG.oper p O fr E U w):=by
 unfold Go.stepG.oper;split
 trivial;split
 exact w_ _ _ _ _ _ _ _;exact w_ _ _ _ _ _ _ _
theorem Q5{o:Option α}{a:GStep}{f:α->GStep}(h1:gLe w a)(h2:∀ x,gLe w (f x)):gLe w (o.elim a f):=by cases o;exact h1;exact h2 _
theorem YV (p:Program)(main V:Bool)(fr:Frame)(U:List Frame)(X:Option Dying)(w:World):gLe w (Go.stepG.exec p main V fr U X w):=by
 unfold Go.stepG.exec
 extract_lets go to lost leave
 have Y:∀ fr w0,w.drawn<=w0.drawn->gLe w (go fr w0):=λfr w0 h0=>h0;have W:∀ k,gLe w (to k):=λk=>alJ _;have O:∀ m,gLe w (lost m):=λ_=>trivial;have E:∀ j,gLe w (leave j):=λj=>by
  show gLe w (match fr.roundOf with|none=>_|some l=>_);split
  grind
  rcases h:(Instr.endRound _ j).runT p w #[]with⟨r,es⟩;have h:=rQ h;dsimp only;refine gLe.after ?_;split
  exact gLe.trans h (w8 _ _ _ _ _ _ _);trivial
 have hgo1:∀ fr,gLe w (go fr w):=λfr=>alJ _
 clear_value to lost leave
 split
 all_goals first|exact E _|exact W _|exact O _|trivial|exact Q5 (E _) W|exact w_ _ _ _ _ _ _ _|exact Q5 (O _) (λ_=>w_ _ _ _ _ _ _ _) |skip
 grind
 rcases h:(Instr.enterLoop fr.fn fr.tmps _ _ _ fr.roundOf).runT p w #[]with⟨r,es⟩;have h:=rQ h;dsimp only;refine gLe.after ?_;split
 exact gLe.trans h (w_ _ _ _ _ _ _ _);trivial;rcases h:(Instr.endLoop _).runT p w #[]with⟨r,es⟩;have h:=rQ h;dsimp only;refine gLe.after ?_;split
 exact Y _ _ h;exact Y _ _ h;trivial;refine DT (W _) ?_;split
 rename_i h;exact Y _ _ (lH h);trivial;exact DT (YU _ _ _ _ _ _) (hgo1 _)
theorem VS (p:Program)(O:Bool)(g:Goroutine)(w:World)(E:Bool):gLe w (Go.stepG p O g w E):=by
 unfold Go.stepG;obtain⟨fr,U,st,V,off⟩:=g;dsimp only;split
 exact ac1 _ _ _ _;exact YV _ _ _ _ _ _ _;exact SL _ _ _ _ _ _
def sLe (w:World):Stepped->Prop
 | .next m=>w.drawn<=m.world.drawn| .ended .. =>True
theorem sLe.trans{w':World}{s:Stepped}(h1:w.drawn<=w'.drawn)(h:sLe w' s):sLe w s:=by cases s <;>first|trivial|exact alW h1 h
theorem Q6{c:Prop}[Decidable c]{a b:Stepped}(h1:sLe w a)(h2:sLe w b):sLe w (if c then a else b):=by grind
theorem Q7 (p:Program)(E:Array Goroutine)(rest:Rest)(w:World):sLe w (look p E rest w):=by
 unfold look;split
 extract_lets
 refine Q6 trivial ?_;split
 trivial
 extract_lets
 split
 rename_i h;have h:=lH h;exact h;trivial;trivial;trivial
theorem Kr{rest:Rest}{cases:Array CommCase}{w':World}(h:waitingAt rest cases w=some w'):w.drawn<=w'.drawn:=by
 grind [waitingAt]
theorem Fd (p:Program)(rest:Rest)(U:Array Goroutine)(i:Nat)(g:Goroutine)(cases:Array CommCase)(W:Bool)(O:CommShape)(w:World):sLe w (communicate p rest U i g cases W O w).1:=by
 unfold communicate
 extract_lets put illMade me other
 have E:∀ g U w0 ops,w.drawn<=w0.drawn->sLe w (put g U w0 ops).1:=λ_ _ _ _ h=>h;split
 trivial;split
 split
 split
 rename_i h;exact Kr h;trivial;simp_all;split
 trivial;rename_i h;have hw:=lH h;clear h
 extract_lets r
 split
 split
 rename_i h2;exact E _ _ _ _ (alW hw (VQ h2));trivial;simp_all;simp_all
 extract_lets
 split
 simp_all;split
 rename_i h2;have V:=lH h2;exact E _ _ _ _ (alW hw V);trivial;simp_all;simp_all;trivial
theorem IU (m:Machine)(k:Nat)(t:Timer)(a b:Nat):m.world.drawn<=(retime m k t a b).2.world.drawn:=by
 grind [retime,drain]
variable {m O:Machine}
theorem Pn{op:TimerOp}(h:timerOp m op=.ok (v,O)):m.world.drawn<=O.world.drawn:=by
 have named:∀ (D:Nat) (U:Machine) E f,(∀ k t,D<=(f k t).2.world.drawn)->timerOp.named U E f=.ok (v,O)->D<=O.world.drawn:=λD U E f W h=>by
  grind [timerOp.named]
 unfold timerOp at h;split at h
 split at h
 cases h;exact alJ _;grind
 exact named _ _ _ _ (λk t=>IU _ _ _ _ _) h;split at h
 rename_i m1 V;have h1:m.world.drawn<=m1.world.drawn:=by
  grind [timerOp.opened]
 exact alW h1 (named m1.world.drawn _ _ _ (λk t=>IU _ _ _ _ _) h);cases h;cases h;exact alJ _
theorem VT (p:Program)(m:Machine)(i:Nat)(O:Bool):sLe m.world (Go.runT p m i O).1:=by
 unfold Go.runT
 extract_lets rest world
 split
 extract_lets wake fn pos s ops done
 have E:gLe m.world s:=VS _ _ _ _ _;have hd:∀ r,(done r).1=r:=λr=>rfl
 clear_value s done
 split
 all_goals try rw[hd]
 trivial;split
 rename_i h;have:=Fd p rest ‹_› i ‹_› ‹_› ‹_› ‹_› ‹_›;rw[h]at this;exact sLe.trans E this;exact E;exact E;exact Q6 trivial E;exact E;exact sLe.trans E (Q7 _ _ _ _);exact E;exact E;split
 exact E;split
 rename_i h;simp only[endThrow,dieOf]at h;cases h;exact E;trivial;trivial;split
 rename_i h;exact alW E (Pn h);exact E;trivial;trivial
theorem VU (p:Program)(m:Machine)(k:Nat):sLe m.world (serve p m k):=by
 unfold serve;split
 trivial;exact alJ _
 extract_lets
 split
 trivial;exact alJ _
def mLe (w:World):Move->Prop
 | .goroutine m _=>w.drawn<=m.world.drawn| .machine s _=>sLe w s
theorem mLe.trans{w':World}{s:Move}(h1:w.drawn<=w'.drawn)(h:mLe w' s):mLe w s:=by
 cases s;exact alW h1 h;exact sLe.trans h1 h
theorem Fe (p:Program)(m:Machine):mLe m.world (askOn p m):=by
 unfold askOn
 extract_lets mono rs ds pick
 have E:∀ O:Machine,m.world.drawn<=O.world.drawn->mLe m.world (pick O):=λO U=>by
  show mLe m.world (match (choose (.sched rs.length)).run p O.world with| .halt _ w=>_| .ok k world=>_);split
  trivial;rename_i h;have h1:=lH h;split
  exact alW U h1;split
  trivial;rename_i h2;have h2:=lH h2;exact alW U (alW h1 h2)
 clear_value pick rs ds
 split
 trivial;rename_i h;have hw:=lH h;clear h
 extract_lets m1
 split
 exact sLe.trans hw (VU p _ _);cases rs with
 |nil=>
  dsimp only;split
  exact hw;split
  exact hw;split <;>trivial
 |cons r rs=>
  dsimp only;split
  grind
  split
  trivial;rename_i h;have h2:=lH h;grind;rename_i h;have h2:=lH h;exact alW hw h2;rename_i h;have h2:=lH h;exact E _ (alW hw h2)
theorem MS (p:Program)(m:Machine):mLe m.world (ask p m):=by
 unfold ask;split
 split
 trivial;rename_i h;have hw:=lH h;have:=Q7 p m.gs m.rest ‹World›;split
 rename_i E h2;rw[h2]at this;exact mLe.trans (alW hw this) (Fe p _);rename_i e h2;exact sLe.trans hw this;rename_i h;have hw:=lH h;exact mLe.trans hw (Fe p _);exact Fe p m
theorem YW (p:Program)(m:Machine):mLe m.world (move p m):=by
 unfold move;split
 split
 exact alJ _;trivial;split
 split
 exact alJ _;exact MS p _;exact MS p m
theorem YX (p:Program)(m:Machine):sLe m.world (step p m):=by
 unfold step stepT;have:=YW p m;split
 rename_i h;rw[h]at this;exact sLe.trans this (VT p _ _ _);rename_i h;rw[h]at this;exact this
theorem MT(h:Steps p m O):m.world.drawn<=O.world.drawn:=by
 obtain⟨n,E⟩:=h;induction n generalizing m with
 |zero=>grind [runN]
 |succ n U=>
  simp only[runN]at E;have:=YX p m;cases V:step p m with
  |next m1=>
   rw[V]at E this;exact alW this (U E)
  |ended o w=>grind
theorem MU{P:Program}{f:FuncId}{args:Array Value}{R:Ending->World->Prop}(h:Calls P f args w R):Calls P f args w λe w'=>R e w'/\(e≠ .outgrown->w.drawn<=w'.drawn):=by
 intro cs;obtain⟨e,w',fr,U,hc,E,V⟩:=h cs;refine⟨e,w',fr,⟨U,λO=>?_⟩,hc,E,V⟩;cases e with
 |returned v=>exact MT (p:=P) hc|panicked c=>exact MT (p:=P) hc|outgrown=>grind
end Go.Sx
end
section
namespace Go.Sx
open Go.Lib Go.Proofs Go.RowKit Go.Shelf Go.Sort
def aav:SV->Value
 | .v x=>x|_=>undef
def tB (k:Tag)(x:k.T):List Value:=(cellsOf k x).map aav
def xa (k:Tag):Prop:= ∀ (x:k.T) (s:SV),s∈cellsOf k x->∃ v,s=.v v/\v.oneCell'=true
def srt {α:Type}(cf:α->α->Int)(l:List α):List α:=l.mergeSort λx y=>!(ltOf cf y x)
def apart {α:Type}(cf:α->α->Int)(l:List α):Prop:= ∀ x∈l,∀ y∈l,ltOf cf x y=false->ltOf cf y x=false->x=y
theorem Po {α:Type}[Inhabited α]{cf:α->α->Int}(U:SWO (ltOf cf)){l:List α}(h:apart cf l){O:Array α}(hp:PermIn 0 l.toArray.size l.toArray O)(Y:SortedIn (ltOf cf) 0 l.toArray.size O):O=(srt cf l).toArray:=by
 obtain⟨X,_,E⟩:=hp;have e1:O.extract 0 l.toArray.size=O:=by grind
 rw[e1,Array.extract_size]at E;have E:O.toList.Perm l:=by omega
 have:O.toList=srt cf l:=by
  refine amJ (le:=λx y=>(!ltOf cf y x)=true) ?_ ?_ ?_ (E.trans (amE _ _).symm);intro a b ha hb h1 h2;simp only[al0]at h1 h2;exact h a (E.subset ha) b ((amE _ _).subset hb) h2 h1;rw[amh];intro i j hi hj V;have:=Y i j (ame _) V (by grind);grind
  refine amz (λa b c h1 h2=>?_) (λa b=>?_) l;simp only[al0]at h1 h2 |-;exact U.ntrans c b a h2 h1;simp only[ama,al0];cases h1:ltOf cf b a with
  |false=>grind
  |true=>
   right;cases h2:ltOf cf a b with
   |false=>rfl
   |true=>
    have W:=U.trans a b a h2 h1;rw[U.irrefl]at W;cases W
 rw[<-this]
section
variable {P:Program}{ρ:Ren}{F:Nat->Prop}{own:Own}{w:World}{k:Tag}
variable {l:List k.T}{o:Nat}{cs:Array Value}
theorem By(V:xa k)(h:apB F own w k l o cs){i j:Nat}(hi:i<l.length)(X:j<aa k):cs[o+i*aa k+j]? =(tB k l[i])[j]?:=by
 have W:=alP hi;have E:j< (cellsOf k l[i]).length:=by grind [bG]
 have O:=alP E;obtain⟨u,h1,h2⟩:=h i _ W j _ O;obtain⟨v,U,_⟩:=V l[i] _ (amA E);rw[h1];unfold tB;rw[amB,O];rw[U]at h2 |-;rw[cG h2];rfl
theorem Bz(V:xa k)(h:∀ i j,(hi:i<l.length)->j<aa k->cs[o+i*aa k+j]? =(tB k l[i])[j]?):apB F own w k l o cs:=by
 intro i x hi j s O;obtain⟨W,rfl⟩:=alM.1 hi;have E:=(alM.1 O).1;rw[bG]at E;have:=h i j W E;unfold tB at this;rw[amB,O]at this;obtain⟨v,U,_⟩:=V _ s (alU O);subst U;exact⟨v,this,.v v⟩
theorem YY {w w':World}(hb:Go.RowKit.Below w.heap.size w w')(hd:w.drawn<=w'.drawn):∃ q X,w'=grow (w.drewN q) X:=by
 refine⟨w'.drawn - w.drawn,w'.heap.extract w.heap.size w'.heap.size,?_⟩;obtain⟨h1,h2,h3,h4,h5⟩:=hb;obtain⟨heap,Y,drawn,X,U⟩:=w;obtain⟨W,V,O,os',E⟩:=w';simp only at h1 h2 h3 h4 h5 hd;subst h1;subst h2;subst h3;unfold grow World.drewN;simp only[World.mk.injEq,true_and,and_true];grind
end
open Classical in
noncomputable def iN (k:Tag)(g:FuncId)(caps:List SV)(cf:k.T->k.T->Int):List SV->List Ob->Option apd:=λl h=>
 ML k (λl0=>if l=[.os 0,.fn g [] caps]then some (ft (apart cf l0) (.tup []) [.row k (srt cf l0)])else none) h
@[go_sem] theorem mV {k:Tag}{g:FuncId}{caps:List SV}{cf:k.T->k.T->Int}{l0:List k.T}:iN k g caps cf [.os 0,.fn g [] caps] [.row k l0]=some (ft (apart cf l0) (.tup []) [.row k (srt cf l0)]):=by
 simp[iN,ML]
section
variable {P:Program}{ρ:Ren}{k:Tag}
variable {w:World}{cs:Array Value}{ty:TypeId}
theorem VV{b:Nat}(E:w.heap[b]? =some (.cells cs ty (0,0)))(D:Array Value)(o:Nat):(putRow id w b o D).heap[b]? =some (.cells (putCells id o D cs) ty (0,0)):=by
 unfold putRow mapBlock;simp only[aoF,if_true,E];rfl
theorem MV{b c:Nat}(hc:c≠b)(D:Array Value)(o:Nat):(putRow id w b o D).heap[c]? =w.heap[c]?:=by
 unfold putRow mapBlock;grind
variable {o:Nat}
theorem Ks{D:Array Value}{t:Nat}(O:t<D.size)(E:o+t<cs.size):(putCells id o D cs)[o+t]? =D[t]?:=by
 unfold putCells;grind
variable {α:Type}{enc:α->List Value}{n:Nat}
theorem MW[Inhabited α](E:∀ x,(enc x).length=n){d:Array α}{i j:Nat}(hi:i<d.size)(O:j<n):(flatK enc n d)[i*n+j]? =(enc d[i]!)[j]?:=by
 have hlt:i*n+j<d.size*n:=by
  have:=alX n (show i+1<=d.size from hi);grind
 have h1:i*n+j< (flatK enc n d).size:=by simp_all
 rw[anc h1,<-getElem!_pos (flatK enc n d) _ h1,get_flatK enc n d _ hlt];grind [Nat.mul_comm,Nat.mul_add_div,Nat.div_eq_of_lt,Nat.mul_add_mod,Nat.mod_eq_of_lt]
variable {m:Nat}
theorem asx[Inhabited α]{b:Nat}(E:w.heap[b]? =some (.cells cs ty (0,0)))(d:Array α)(O:Array Obj):(sortWorldK enc n w b o m d O).heap[b]? =some (.cells (putCells id o (flatK enc n d) cs) ty (0,0)):=by
 have hlt:b<w.heap.size:=(amW.1 E).1;unfold sortWorldK grow;simp only;rw[al6 (by unfold putRowK putRow mapBlock Sort.ahead;grind)];exact VV (w:=Sort.ahead w m) E _ _
theorem aaw[Inhabited α]{b c:Nat}(hc:c<w.heap.size)(E:c≠b)(d:Array α)(O:Array Obj):(sortWorldK enc n w b o m d O).heap[c]? =w.heap[c]?:=by
 unfold sortWorldK grow;simp only;rw[al6 (by unfold putRowK putRow mapBlock Sort.ahead;grind)];exact MV (w:=Sort.ahead w m) E _ _
theorem Kt[Inhabited α]{b:Nat}(d:Array α)(E:Array Obj):w.heap.size<=(sortWorldK enc n w b o m d E).heap.size:=by
 unfold sortWorldK grow putRowK putRow mapBlock Sort.ahead;simp
theorem qN (L:SlLaysF0.n6 P ρ)(aE:∀ w,(isAgg (ρ.t 24)).run P w=.ok true w)(zE:∀ w,(Go.sizeOf (ρ.t 24)).run P w=.ok (aa k) w)(hk:xa k)(h0:0<aa k){g:FuncId}{caps:List SV}{C:List SV->Option Con}(hC:zs P g C){cf:k.T->k.T->Int}
  (hcf:∀ x y,C (.agg (cellsOf k x):: .agg (cellsOf k y)::caps)=some (.det True (.v (.int .i64 (cf x y))))) (hO:SWO (ltOf cf)) (hpf:∀ s∈caps,PF s) (asr:∃ x y,C (.agg (cellsOf k x):: .agg (cellsOf k y)::caps)=some (.det True (.v (.int .i64 (cf x y))))):ape P (ρ.f 6) (iN k g caps cf):=by
 haveI:Inhabited k.T:=⟨et k⟩
 refine⟨λl h c hc args w=>L.f6.enters rfl args w,λl h c hc hp F own w vs O hvs=>?_⟩;unfold iN at hc;obtain⟨l0,hh,hK⟩:=MM hc;clear hc;subst hh;by_cases hl:l=[.os 0,.fn g [] caps]
 rotate_left
 grind
 rw[if_pos hl]at hK;subst hl;cases hK;have hp:apart cf l0:=hp;obtain⟨hsz,Y⟩:=hvs;have r0:=Y 0 _ rfl;have r1:=Y 1 _ rfl;have V:vs= #[vs.getD 0 undef,vs.getD 1 undef]:=by
  apply ao3;omega;intro i h1 h2;simp only[alL,alS]at hsz;match i,h1,h2 with
  |0,h1,_=>simp_all|1,h1,_=>simp_all|i+2,h1,_=>omega
 generalize vs.getD 0 undef=v0 at r0 V;generalize vs.getD 1 undef=v1 at r1 V;subst V;obtain⟨hd,o0,rfl,_⟩:=ij r0;obtain⟨hd',o0',X⟩:=O.at (id:=0) (o:=.row k l0) rfl rfl;rw[o0]at o0';cases o0';have X:apm F own w k l0 hd.v hd.bs:=X;cases r1 with
 | @fn _ _ _ us cs s1 s2 c1 c2=>
 have hus:us= #[]:=anY (by omega);subst hus;rcases X with⟨a,e1,rfl,e2⟩ | ⟨b,o,cap,cells,ty,e1,e2,e3,e4,e5,e6,e7⟩;rw[e1];refine(AnyF.slices_SortFunc_none L a 0 _ w).mono λe w' he=>?_;obtain⟨rfl,rfl⟩:=he;refine⟨(),own,trivial,⟨_,rfl,.tup rfl λj s E=>by simp at E⟩,?_,Fr.refl _,alJ _⟩;simp_all [srt]
 ·have U:b∈hd.bs:=by rw[e2];simp
  have hbw:b<w.heap.size:=O.lt 0 hd b o0 U;have hkl:∀ x:k.T,(tB k x).length=aa k:=λx=>by unfold tB;rw[amM,bG]
  have hone:∀ x:k.T,∀ v∈tB k x,v.oneCell'=true:=λx v hv=>by
   unfold tB at hv;rw[anh]at hv;obtain⟨s,hs,rfl⟩:=hv;obtain⟨v,rfl,h1⟩:=hk x s hs;exact h1
  have eg:∀ args w,(callFunc g args).run P w=.ok (.enter g args) w:=λargs w=>by
   obtain⟨x,y,hxy⟩:=asr;exact hC.enter _ _ hxy args w
  have hown:∀ id h2,own id=some h2->id=0:=λid h2 e=>by have:=O.dom id h2 e;grind
  have hH:HoldsK (tB k) (aa k) w b o l0.toArray:=by
   intro t ht;rw[size_flatK]at ht;simp only[anB]at ht;have hi:t / aa k<l0.length:=Nat.div_lt_of_lt_mul (by grind);have E:=anP t h0;have ht':t=t / aa k*aa k+t % aa k:=(Nat.div_add_mod' t _).symm;have q1:=By hk e7 hi E;have q2:=MW (enc:=tB k) hkl (d:=l0.toArray) (i:=t / aa k) (j:=t % aa k) (by omega) E;grind [World.cell?,World.frozen?]
  have hcmp:CmpLays P g cs (tB k) (aa k) cf b o l0.toArray.size w:=by
   intro m os dk hdk x y;generalize hW:sortWorldK (tB k) (aa k) w b o m dk os=W;have hcar:apz F own w F own W:=⟨λ_ h2 e=>⟨h2,e,.refl _⟩,λc hc hn=>⟨hn,by
    rw[<-hW];exact aaw hc (λe=>hn (.inr ⟨0,hd,o0,e▸U⟩)) _ _⟩⟩
   have henc:∀ z:k.T,Rel (λ_=>False) dv W (.agg (cellsOf k z)) (.agg (tB k z).toArray):=λz=>by
    refine .agg (by simp[tB]) λj s E=>?_;obtain⟨v,rfl,_⟩:=hk z s (alU E);have:(tB k z).toArray.getD j undef=v:=by
     unfold tB;rw[al_,anW,amB,E];rfl
    rw[this];exact .v v
   have hcall:=MU (hC.calls _ _ (hcf x y) trivial (λ_=>False) W (#[.agg (tB k x).toArray,.agg (tB k y).toArray]++cs) (λ_ h=>h.elim) ⟨by grind,λj s E=>by
    match j,E with
    |0,E=>
     cases E;simp_all [al6]
    |1,E=>
     cases E;simp_all [al6]
    |j+2,E=>
     have E:caps[j]? =some s:=E;have:=((c2 j s E).carry hcar).aph (hpf s (alU E)) (F':=λ_=>False) (bn:=dv) λ_ _ h=>by
      rcases h with h| ⟨_,_,h,_⟩;exact h;cases h
     simp_all [am4]⟩)
   refine hcall.mono λe w' hq=>?_;obtain⟨he,hdr⟩:=hq;rcases he with⟨s,u,bn,hs,rfl,hh,hb⟩ | ⟨z,hz,_⟩;simp only[dL]at hs;subst hs;have:=hh.val;simp only[wR]at this;rw[cG this];exact⟨rfl,YY hb (hdr (by simp))⟩;exact hz.elim
  have hall:=AnyQ.slices_SortFunc L (aa k) aE zE (tB k) hkl hone cf hO g cs b o cap l0.toArray w eg hcmp hH hbw (by grind [aH]);rw[e1];refine hall.mono λe w' he=>?_;obtain⟨rfl,d',n,os,hpm,hst,rfl⟩:=he;have hd':=Po hO hp hpm hst;subst hd';have hlS:(srt cf l0).length=l0.length:=aoG _;generalize srt cf l0=lS at hlS;have hsb:=asx (enc:=tB k) (n:=aa k) (o:=o) (m:=n) e3 lS.toArray os;refine⟨(),own,trivial,⟨_,rfl,.tup rfl λj s E=>by simp at E⟩,?_,?_,alJ _⟩;refine⟨O.dom,λc hc=>alT (O.ao1 c hc) (Kt _ _),O.apart,O.inj,λi h2 c e hc=>alT (O.lt i h2 c e hc) (Kt _ _),λi hi=>?_⟩;match i,hi with
  |0,_=>
   refine⟨hd,o0,?_⟩;show apm F own _ k lS hd.v hd.bs;refine .inr ⟨b,o,cap,_,ty,by grind,e2,hsb,?_,by omega,by omega,Bz hk λi j hi E=>?_⟩;unfold putCells;grind;have hlt:i*aa k+j< (flatK (tB k) (aa k) lS.toArray).size:=by
    rw[size_flatK];have:=alX (aa k) (show i+1<=lS.length from hi);grind
   have hle:o+(i*aa k+j) <cells.size:=by
    rw[size_flatK]at hlt;simp only[anB]at hlt;have:=alX (aa k) (show lS.length<=cap by omega);omega
   rw[am7,Ks hlt hle,MW hkl (by omega) E];grind
  |i+1,hi=>rw[mQ (by simp)]at hi;cases hi
  refine⟨λ_ h2 e=>⟨h2,e,.refl _⟩,(Fr.refl { w:=w,own:=own}).base,rfl,rfl,rfl,Kt _ _,λc hc=>?_⟩;exact aaw hc.1 (λe=>hc.2 ⟨0,hd,o0,e▸U⟩) _ _
end
def wj (l:List Int):List Int:=l.mergeSort λx y=>decide (x<=y)
noncomputable def Pp:List SV->List Ob->Option apd:=i7 (λx_:List Int=>[.os 0]) (λx_=>[.row .int x_]) (λx_=>ft True (.tup []) [.row .int (wj x_)])
@[go_sem]def afB (l_:List Int):Pp ([.os 0]) ([.row .int l_])=some (ft True (.tup []) [.row .int (wj l_)]):=fF (A:=λx_:List Int=>[.os 0]) (H:=λx_=>[.row .int x_]) (K:=λx_=>ft True (.tup []) [.row .int (wj x_)]) (x:=l_)
section
variable {P:Program}{ρ:Ren}
variable {enc:Int->Value}{w:World}{cs:Array Value}{ty:TypeId}
theorem aax{b:Nat}(E:w.heap[b]? =some (.cells cs ty (0,0)))(D:Array Int)(o:Nat):(putRow enc w b o D).heap[b]? =some (.cells (putCells enc o D cs) ty (0,0)):=by
 unfold putRow mapBlock;simp only[aoF,if_true,E];rfl
theorem VW{b c:Nat}(hc:c≠b)(D:Array Int)(o:Nat):(putRow enc w b o D).heap[c]? =w.heap[c]?:=by
 unfold putRow mapBlock;grind
variable {o:Nat}
theorem MX{D:Array Int}{t:Nat}(E:t<D.size)(O:o+t<cs.size):(putCells enc o D cs)[o+t]? =some (enc D[t]):=by
 unfold putCells;grind
variable {m:Nat}
theorem asz{b:Nat}(E:w.heap[b]? =some (.cells cs ty (0,0)))(d:Array Int)(O:Array Obj):(grow (putRow enc (Sort.ahead w m) b o d) O).heap[b]? =some (.cells (putCells enc o d cs) ty (0,0)):=by
 have hlt:b<w.heap.size:=(amW.1 E).1;unfold grow;simp only;rw[al6 (by simp_all)];exact aax (w:=Sort.ahead w m) E _ _
theorem ahN{b c:Nat}(hc:c<w.heap.size)(E:c≠b)(d:Array Int)(O:Array Obj):(grow (putRow enc (Sort.ahead w m) b o d) O).heap[c]? =w.heap[c]?:=by
 unfold grow;simp only;rw[al6 (by simp_all)];exact VW (w:=Sort.ahead w m) E _ _
theorem Ku{b:Nat}(d:Array Int)(E:Array Obj):w.heap.size<=(grow (putRow enc (Sort.ahead w m) b o d) E).heap.size:=by
 simp_all
theorem xO:xa .int:=by
 intro x s E;have:s=.v (.int .i64 x):=by grind [cellsOf]
 exact⟨_,this,rfl⟩
theorem Pq (L:SlLaysM.n5 P ρ):ape P (ρ.f 5) Pp:=by
 refine⟨λl h c hc args w=>L.f5.enters rfl args w,λl h c hc hp F own w vs E hvs=>?_⟩;obtain⟨l0,rfl,rfl,rfl⟩:=dP hc;clear hc;obtain⟨hsz,ap6⟩:=hvs;have r0:=ap6 0 _ rfl;have V:vs= #[vs.getD 0 undef]:=by
  apply ao3 <;>simp_all
 generalize vs.getD 0 undef=v0 at r0 V;subst V;obtain⟨hd,o0,rfl,_⟩:=ij r0;obtain⟨hd',X,O⟩:=E.at (id:=0) (o:=.row .int l0) rfl rfl;rw[o0]at X;cases X;have O:apm F own w .int l0 hd.v hd.bs:=O;rcases O with⟨a,e1,rfl,e2⟩ | ⟨b,o,cap,cells,ty,e1,e2,e3,e4,e5,e6,e7⟩;rw[e1];refine(AnyM.slices_Sort_int_none L a 0 w).mono λe w' he=>?_;obtain⟨rfl,rfl⟩:=he;refine⟨(),own,trivial,⟨_,rfl,.tup rfl λj s Y=>by simp at Y⟩,?_,Fr.refl _,alJ _⟩;simp_all [wj]
 ·have U:b∈hd.bs:=by rw[e2];simp
  have hbw:b<w.heap.size:=E.lt 0 hd b o0 U;have hH:Holds (Value.int .i64) w b o (l0:List Int).toArray:=by
   intro t ht;simp only[anB]at ht;have q1:=By xO e7 (i:=t) (j:=0) ht (by decide);have e0:aa .int=1:=rfl;rw[e0,anD,amK]at q1;constructor
   unfold World.cell?;rw[e3];dsimp only;rw[q1,getElem!_pos _ t (by omega)];rfl;grind [World.frozen?]
  have hlen:l0.length<4611686018427387904:=by grind [aH]
  have W:=AnyM.slices_Sort_int L b o cap l0 w hH hbw hlen;rw[e1];refine W.mono λe w' he=>?_;obtain⟨rfl,n,os,rfl⟩:=he;have hlS:(wj l0).length=l0.length:=aoG _;show ∃ r bn,_/\J5 F w own 1 (.returned (.tuple #[])) bn (grow (putRow (Value.int .i64) (Sort.ahead w n) b o (wj l0).toArray) os) (.ret (.tup []) [.row .int (wj l0)]);generalize wj l0=lS at hlS;have hsb:=asz (enc:=Value.int .i64) (o:=o) (m:=n) e3 lS.toArray os;refine⟨(),own,trivial,⟨_,rfl,.tup rfl λj s Y=>by simp at Y⟩,?_,?_,alJ _⟩;refine⟨E.dom,λc hc=>alT (E.ao1 c hc) (Ku _ _),E.apart,E.inj,λi h2 c e hc=>alT (E.lt i h2 c e hc) (Ku _ _),λi hi=>?_⟩;match i,hi with
  |0,_=>
   refine⟨hd,o0,?_⟩;show apm F own _ .int lS hd.v hd.bs;have hc1:aa .int=1:=rfl;refine .inr ⟨b,o,cap,_,ty,by grind,e2,hsb,?_,by omega,by omega,Bz xO λi j hi Y=>?_⟩;unfold putCells;grind;rw[hc1]at Y |-;have hj0:j=0:=by omega
   subst hj0;rw[anD,amK,MX (by omega) (by grind)];rfl
  |i+1,hi=>rw[mQ (by simp)]at hi;cases hi
  refine⟨λ_ h2 e=>⟨h2,e,.refl _⟩,(Fr.refl { w:=w,own:=own}).base,rfl,rfl,rfl,Ku _ _,λc hc=>?_⟩;exact ahN hc.1 (λe=>hc.2 ⟨0,hd,o0,e▸U⟩) _ _
end
end Go.Sx
end
section
attribute [go_sem] Nat.reduceBEq Nat.reduceLeDiff Nat.reduceLT decide_true Nat.reduceAdd Nat.reduceSub Nat.reduceMul Nat.reduceDiv Int.reduceLE Int.reduceLT Int.reduceToNat Int.reduceNeg reduceCtorEq cond_true cond_false Bool.not_true Bool.not_false
end
section
namespace Go.Sx
open Go.Proofs Go.RowKit
variable {O:List (Nat×(List SV->Option Con))}{E:List (Nat×(List SV->List Ob->Option apd))}
def mG(h1:∀ x∈O,zs Tryz.prog x.1 x.2)(h2:∀ x∈E,ape Tryz.prog x.1 x.2):X2 Tryz.prog (mkG O E):=oz h1 h2
def mGY{Y:List SV->Res->Option aqo}(h1:∀ x∈O,zs Tryz.prog x.1 x.2)(h2:∀ x∈E,ape Tryz.prog x.1 x.2)(U:YOk Tryz.prog Y):X2 Tryz.prog (Ag O E Y):=DQ h1 h2 U
variable {P:Program}{f:Nat}{C:List SV->Option Con}{l:List (Nat×(List SV->Option Con))}
def cp(h:zs P f C)(t:∀ x∈l,zs P x.1 x.2):∀ x∈(f,C)::l,zs P x.1 x.2:=cgc h t
def cn(p:List Pk)(h:zs P f C)(t:∀ x∈l,zs P x.1 x.2):∀ x∈(f,λl=>C (yX p l))::l,zs P x.1 x.2:=cgc (h.norm p) t
def co{C:List SV->List Ob->Option apd}{l:List (Nat×(List SV->List Ob->Option apd))}(h:ape P f C)(t:∀ x∈l,ape P x.1 x.2):∀ x∈(f,C)::l,ape P x.1 x.2:=cgc h t
section
variable {G:Cons}{f:FuncId}{C:List SV->Option Con}{D:List SV->List Ob->Option apd}
abbrev YZ (fn:Func)(G:Cons)(l:List SV)(o:List Ob)(Q:Ex->St->Prop):Prop:=l.length<=fn.ntmps/\∃ L,ak Tryz.prog none fn.ntmps L (ae fn)/\exec ts G L (ae fn) ⟨nY 0 l,o⟩ Q
theorem fE (hG:X2 Tryz.prog G) (fn:Func) (h:∀ l E,C l=some E->an E->YZ fn G l [] (Ep true fn.results.toList ts (dL E) (ke E))) (O:Tryz.prog.funcs[f]? =some fn:=by kernel_rfl) (U:fn.body=some (ae fn):=by kernel_rfl) (V:(fn.name== "runtime.NumGoroutine")=false:=by kernel_rfl) (hc:cP fn.ntmps (ae fn)=true:=by kernel_rfl):zs Tryz.prog f C:=
 UK true mixed aB hG O U V hc h
theorem fN (hG:X2 Tryz.prog G) (fn:Func) (p:List Pk) (h:∀ l E,C l=some E->an E->YZ fn G l [] (Ep false fn.results.toList ts (λs=>dL E (wX p s)) (ke E))) (O:Tryz.prog.funcs[f]? =some fn:=by kernel_rfl) (U:fn.body=some (ae fn):=by kernel_rfl) (V:(fn.name== "runtime.NumGoroutine")=false:=by kernel_rfl) (hc:cP fn.ntmps (ae fn)=true:=by kernel_rfl):zs Tryz.prog f C:=
 Bq p mixed aB hG O U V hc h
theorem fW (hG:X2 Tryz.prog G) (fn:Func) (l:List (ResultVar×Tag)) (h:∀ l0 E,C l0=some E->an E->YZ fn G l0 [] (MK l fn.results.toList ts (dL E) (ke E))) (O:Tryz.prog.funcs[f]? =some fn:=by kernel_rfl) (U:fn.body=some (ae fn):=by kernel_rfl) (V:(fn.name== "runtime.NumGoroutine")=false:=by kernel_rfl) (hc:cP fn.ntmps (ae fn)=true:=by kernel_rfl):zs Tryz.prog f C:=
 VK l mixed aB hG O U V hc h
theorem fR (hG:X2 Tryz.prog G) (fn:Func) (h:∀ l o E,D l o=some E->∃ p S H,E=ft p S H/\(p->YZ fn G l o (Q0 o.length fn.results.toList ts S H))) (O:Tryz.prog.funcs[f]? =some fn:=by kernel_rfl) (U:fn.body=some (ae fn):=by kernel_rfl) (V:(fn.name== "runtime.NumGoroutine")=false:=by kernel_rfl) (hc:cP fn.ntmps (ae fn)=true:=by kernel_rfl):ape Tryz.prog f D:=
 MD mixed aB hG O U V hc h
end
end Go.Sx
end
section
namespace Go.Sx
open Go.Proofs
open IntKind (i64 u64)
variable {l0:List Nat}{p:Prop}
theorem uL(a0:JL l0)(h:JL l0->p:=by intro ja;(first|done|(repeat' (first|with_reducible refine And.intro ?_ ?_|((with_reducible show _≠_);first|assumption|omega|(simp_all [ci,d8];done) |grind) |with_reducible intro _)) <;>(first|done|with_reducible exact Empty.elim ‹Empty› |with_reducible assumption|rfl|omega|assumption|decide|exact fk ja|(simp only[*,cond_true,cond_false,alZ,amd,go_sem];done) |(simp only[*,cond_true,cond_false,alZ,amd,go_sem];(repeat' (first|with_reducible refine And.intro ?_ ?_|((with_reducible show _≠_);first|assumption|omega|(simp_all [ci,d8];done) |grind) |with_reducible intro _)) <;>(first|done|assumption|rfl|omega|decide|exact fk ja|(simp_all [ci,d8];done))) |(simp_all [okI,ci,d8];done) |(simp_all [ci,d8];(first|done|exact fk2 ja)) |exact fk2 ja))):p:=h a0
theorem bB(a0:JL l0)(h:JL l0->p:=by intro ja;simp only[go_sem,hc,hw];all_goals exact uL ja):p:=h a0
theorem bC(a0:JL l0)(h:JL l0->p:=by intro ja;simp only[go_sem,hc];all_goals exact uL ja):p:=h a0
def kL (x:Int):Bool:=false
@[go_sem] def Da:List SV->Option Con:=(pI λx=>(pE (.det True (.v (.bool (kL x))))))
theorem zq2(h:p:=by simp only[go_sem];all_goals exact cl):p:=h
theorem BA:zs Tryz.prog 137 Da:=by
 have hG:=mG C1 C1;refine fN hG Tryz.f137 [.o] (az λx=>(am (λE=>?_)));dsimp only[an]at E;refine⟨Y2 rfl,L0,ag _,?_⟩;unfold ae Tryz.f137;try unfold kL
 exact zq2
def be (x:Int)(y:Int):Int:=(bif(kL x)then(bif(kL y)then 0 else(-1))else(bif(kL y)then 1 else(bif(decide (x<y))then(-1)else(bif(decide (x > y))then 1 else 0))))
@[go_sem] def oC:List SV->Option Con:=(pI λx=>(pI λy=>(pE (.det True (.v (.int .i64 (be x y)))))))
theorem eK:zs Tryz.prog 82 oC:=by
 have hG:=mG (cp BA C1) C1;refine fN hG Tryz.f82 [.o] (az λx=>(az λy=>(am (λE=>?_))));dsimp only[an]at E;refine⟨Y2 rfl,L0,ag _,?_⟩;unfold ae Tryz.f82;try unfold be
 exact zq2
def c9 (n:Int):Int:=(bif(decide (n<0))then(u64.wrap (0 - (u64.wrap n)))else(u64.wrap n))
@[go_sem] def An:List SV->Option Con:=(pI λn=>(pE (.det True (.v (.int .u64 (c9 n))))))
theorem sM:zs Tryz.prog 275 An:=by
 have hG:=mG C1 C1;refine fN hG Tryz.f275 [.o] (az λn=>(am (λE=>?_)));dsimp only[an]at E;refine⟨Y2 rfl,L0,ag _,?_⟩;unfold ae Tryz.f275;try unfold c9
 exact zq2
def aQ (a:B1):Int:=(bif(((((decide (a.d<1)) ||(decide (a.d > 1073741824))) ||(decide (a.n< (-1073741824)))) ||(decide (a.n > 1073741824))) ||(((MC (Int.toNat (c9 a.n)) (Int.toNat (u64.wrap a.d)):Nat):Int) !=1))then 120 else 0)
def yJ (a:B1):Prop:=(((((decide (a.d<1)) ||(decide (a.d > 1073741824))) ||(decide (a.n< (-1073741824)))) ||(decide (a.n > 1073741824)))=false->(0<=(c9 a.n)/\0<=(u64.wrap a.d)))
theorem Fg (n:Int):0<=u64.wrap n:=by
 simp[IntKind.wrap,IntKind.bits,IntKind.signed];omega
theorem BB (n:Int):0<=c9 n:=by
 unfold c9;cases decide (n<0) <;>exact Fg _
def Fh (a:B1):yJ a:=λ_=>⟨BB _,Fg _⟩
@[go_sem] def Hq:List SV->Option Con:=(pD .ratio λa=>(pE (.det True (.v (.int .i64 (aQ a))))))
theorem zq5(h:p:=by simp only[go_sem,C83];all_goals exact cl):p:=h
theorem oD:zs Tryz.prog 222 Hq:=by
 have hG:=mG (cp VC (cp sM C1)) C1;refine fN hG Tryz.f222 [.o] (ax λa=>(am (λE=>?_)));dsimp only[an]at E;have E:=Fh a;unfold yJ at E;refine⟨Y2 rfl,L0,ag _,?_⟩;unfold ae Tryz.f222;try unfold aQ
 exact zq5
def gY (a:B1)(b:B1):Int×Int:=(bif(((aQ a) !=0) ||((aQ b) !=0))then(0,120)else((be (i64.wrap (a.n*b.d)) (i64.wrap (b.n*a.d))),0))
@[go_sem] def MY:List SV->Option Con:=(pD .ratio λa=>(pD .ratio λb=>(pE (.det True (.tup [.v (.int .i64 ((gY a b).1)),.v (.int .i64 ((gY a b).2))])))))
theorem Ao:zs Tryz.prog 221 MY:=by
 have hG:=mG (cp eK (cp oD C1)) C1;refine fN hG Tryz.f221 [.o,.o] (ax λa=>(ax λb=>(am (λE=>?_))));dsimp only[an]at E;refine⟨Y2 rfl,L0,ag _,?_⟩;unfold ae Tryz.f221;try unfold gY
 exact zq2
def Hr (ok:Bool)(e:Int):Unit:=(bif(!ok)then default else())
def dw (ok:Bool)(e:Int):Bool:=(bif(!ok)then false else true)
@[go_sem] def Db:List SV->Option Con:=(pB λok=>(pI λe=>(pE (.may (dw ok e) (.tup []) (.iface 194 (.int .i64 e))))))
theorem uM:zs Tryz.prog 61 Db:=by
 have hG:=mG C1 C1;refine fN hG Tryz.f61 [] (Bv λok=>(az λe=>(am (λE=>?_))));dsimp only[an]at E;refine⟨Y2 rfl,L0,ag _,?_⟩;unfold ae Tryz.f61;try unfold Hr
 try unfold dw
 exact zq2
@[go_sem] def cr (l_:List Int)(Q1:Nat)(ly:Unit):Unit⊕Unit:=(bif(decide ((l_.getD (Int.toNat ((Q1:Int)+1)) 0) < (l_.getD (Int.toNat (i64.wrap (((Q1:Int)+1) - 1))) 0)))then .inl ()else .inr ())
def kf (l_:List Int)(Q1:Nat)(ly:Unit):Prop:=(l_.length<=aH->((0<=((Q1:Int)+1)/\((Q1:Int)+1) < (l_.length:Int))/\(0<=(i64.wrap (((Q1:Int)+1) - 1))/\(i64.wrap (((Q1:Int)+1) - 1)) < (l_.length:Int))))
def aK (l_:List Int):Bool:=(match aj (cr l_) (l_.length - 1) 0 ()with| .inl gl=>false| .inr ly=>true)
def v8 (l_:List Int):Prop:=okI (cr l_) (kf l_) (l_.length - 1) 0 ()
theorem BC (E:List Int):v8 E:=gX _ _ _ λj s h1 h2 O=>by
 unfold aH at O;rw[aA (by omega) (by omega)];omega
@[go_sem] def Dc:List SV->Option Con:=(pR .int λl_=>(pE (.det True (.v (.bool (aK l_))))))
theorem zq8(h:p:=by simp only[go_sem,hb0]):p:=h
theorem zq9(h:p:=by simp only[go_sem,cr,hc0,hw0];all_goals exact cl):p:=h
theorem ash(h:p:=by simp only[go_sem,hc0];all_goals exact cl2):p:=h
theorem pF:zs Tryz.prog 113 Dc:=by
 have hG:=mG C1 C1;refine fN hG Tryz.f113 [.o] (bD λO=>(am (λW=>?_)));dsimp only[an]at W;have W:=BC O;unfold v8 at W;refine⟨Y2 rfl,(λid st=>bif Nat.beq id 0 then some (LC (ρ:=Unit) (σ:=Unit) (lk 0 st.t=.rs .int O/\lk 3 st.t=.v (.int .i64 1)/\st.h=[]/\okI (cr O) (kf O) (O.length - 1) 0 ()) (aj (cr O) (O.length - 1) 0 ()) (λ_=>.ret) (λgl=>⟨[(2,.v (.bool false))],[]⟩) (λY=>⟨[],[]⟩))else none),?_,?_⟩
 ·unfold ae Tryz.f113;simp only[ak,true_and,and_true]
  ·refine IP mixed aB hG kr λst lc hC W=>?_;simp only[go_sem,Nat.reduceBEq,alK]at hC;subst hC;obtain⟨t,h⟩:=st;dsimp only[LC]at W;obtain⟨e0_0,e0_1,rfl,X⟩:=W;refine⟨_,_,_,(cr O),(kf O),(O.length - 1),(),_,_,_,(λE Y=>⟨[(0,.rs .int O),(3,.v (.int .i64 ((E:Int)+1)))],[]⟩),[],rfl,X,alJ _,?_,λE Y hk0 hp0=>?_⟩
   ·simp only[go_sem,e0_0,e0_1];all_goals (first|done|decide|(repeat' (first|refine And.intro ?_ ?_|rfl|decide)))
   refine⟨L0,?_,?_⟩;simp only[ak,and_self,true_and,and_true]
   ·by_cases hb0:O.length<=aH
    rotate_left
    exact zq8;by_cases V:E< (O.length - 1)
    have hw0:i64.wrap (((E:Nat):Int)+1+1)=((E+1:Nat):Int)+1:=by(have hbb:=hb0;have hll:=V;try unfold aH at hbb);rw[aA (by omega) (by omega)];omega
    have U:=hp0 V;unfold kf at U
    replace U:=U hb0
    try simp only[hw0,alI]at U
    have hc0:decide (((E:Int)+1) < (O.length:Int))=true:=by simp only[decide_eq_true_eq];omega
    exact zq9;have hc0:decide (((E:Int)+1) < (O.length:Int))=false:=by simp only[decide_eq_false_iff_not];omega
    exact ash
 unfold ae Tryz.f113;try unfold aK
 exact zq2
def cB (i:Int)(n:Int):Bool:=((decide (i>=0))&&(decide (i<n)))
@[go_sem] def Fi:List SV->Option Con:=(pI λi=>(pI λn=>(pE (.det True (.v (.bool (cB i n)))))))
theorem rq:zs Tryz.prog 115 Fi:=by
 have hG:=mG C1 C1;refine fN hG Tryz.f115 [.o] (az λi=>(az λn=>(am (λE=>?_))));dsimp only[an]at E;refine⟨Y2 rfl,L0,ag _,?_⟩;unfold ae Tryz.f115;try unfold cB
 exact zq2
def jm (x:B1×B1):Bool:=(((((gY x.1 x.2).2==0)&&(decide (x.1.n>=0)))&&(decide ((gY x.1 x.2).1<=0)))&&(decide (x.2.n<=x.2.d)))
@[go_sem] def Fj:List SV->Option Con:=(pD .apJ λx=>(pE (.det True (.v (.bool (jm x))))))
theorem Dd:zs Tryz.prog 176 Fj:=by
 have hG:=mG (cp Ao C1) C1;refine fN hG Tryz.f176 [.o] (ax λx=>(am (λE=>?_)));dsimp only[an]at E;refine⟨Y2 rfl,L0,ag _,?_⟩;unfold ae Tryz.f176;try unfold jm
 exact zq2
def dA (i:Int)(x:Reach):Bool:=letI q0:=aK ([0,x.apP.lo,x.apP.hi,1073741824]);letI q1:=aK ([0,x.apl,x.apH,1099511627776]);letI q2:=aK ([0,x.apl,x.cap,1073741824]);letI q3:=aK ([1,x.delay,16]);letI q4:=jm x.apt;(bif(decide (i > 0))then((((((cB x.up i)&&q3)&&q2)&&q1)&&q0)&&q4)else((((((x.up==(-1))&&q3)&&q2)&&q1)&&q0)&&q4))
@[go_sem] def Fk:List SV->Option Con:=(pI λi=>(pD .reach λx=>(pE (.det True (.v (.bool (dA i x)))))))
theorem De:zs Tryz.prog 114 Fk:=by
 have hG:=mG (cn [.sl .int] pF (cp rq (cp Dd C1))) C1;refine fN hG Tryz.f114 [.o] (az λi=>(ax λx=>(am (λE=>?_))));dsimp only[an]at E;refine⟨Y2 rfl,L0,ag _,?_⟩;unfold ae Tryz.f114;try unfold dA
 exact zq2
def iw (a0:ah)(a1:apu):Bool:=letI q0:=(a1.every==0)&&(a1.length==0);letI q1:=i64.wrap (a0.hours - 1);letI q2:=a1.reach==a1.reach;letI q3:=a1.name==a1.name;letI q4:=a1.kind==a1.kind;letI q5:=a1.dd==a1.dd;(bif(((!(cB a1.dd (a0.l5.length:Int))) ||(!(cB a1.reach (a0.reaches.length:Int)))) ||(!(aK ([0,a1.since,a1.to,q1]))))then false else(bif(a1.kind==1)then((((a1.reach==0)&&(aK ([0,a1.ao8,1048576])))&&(aK ([1,a1.bo,1073741824])))&&(aK ([1,a1.length,a1.every,a0.hours])))else(bif(a1.kind==2)then(q3&&(q4&&(q5&&(q2&&((a1.ao8==0)&&((a1.bo==0)&&((a1.since==0)&&((a1.to==q1)&&q0))))))))else(bif(a1.kind==3)then(q3&&(q4&&(q5&&(q2&&((a1.ao8==0)&&((a1.bo==0)&&((a1.since==a1.since)&&((a1.to==a1.to)&&q0))))))))else false))))
@[go_sem] def Fl:List SV->Option Con:=(pD .al λa0=>(pD .right λa1=>(pE (.det True (.v (.bool (iw a0 a1)))))))
theorem Df:zs Tryz.prog 116 Fl:=by
 have hG:=mG (cn [.sl .int] pF (cp rq C1)) C1;refine fN hG Tryz.f116 [.o] (ax λa0=>(ax λa1=>(am (λE=>?_))));dsimp only[an]at E;refine⟨Y2 rfl,L0,ag _,?_⟩;unfold ae Tryz.f116;try unfold iw
 exact zq2
@[go_sem] def dT (a0:ah)(a1:Int)(Q1:Nat)(ly:Unit):Unit⊕Unit:=(bif(dw (dA (Q1:Int) (a0.reaches.getD Q1 default)) a1)then .inr ()else .inl ())
@[go_sem] def eA (a0:ah)(a1:Int)(k_1:Nat)(s_1:Unit):Unit⊕Unit:=(bif(dw (aK ([0,(a0.apg.getD k_1 default).need,1048576])) a1)then .inr ()else .inl ())
@[go_sem] def dU (a0:ah)(a1:Int)(k_2:Nat)(s_2:Unit):Unit⊕Unit:=letI q0:=a0.l5.getD k_2 default;letI q1:=cB (q0.reach) (a0.reaches.length:Int);letI q2:=aK ([0,q0.aqE,1048576]);(bif(decide (q0.aqE > 0))then(bif(dw (((cB (q0.apL) (a0.apg.length:Int))&&q1)&&q2) a1)then .inr ()else .inl ())else(bif(dw (((q0.apL==(-1))&&q1)&&q2) a1)then .inr ()else .inl ()))
@[go_sem] def dV (a0:ah)(a1:Int)(k_3:Nat)(s_3:Unit):Unit⊕Unit:=(bif(dw (iw a0 (a0.ai.getD k_3 default)) a1)then .inr ()else .inl ())
@[go_sem] def fh (a0:ah)(a1:Int)(k_4:Nat)(s_4:Unit):Unit⊕Unit:=letI q0:=a0.apb.getD k_4 default;(bif(dw (((cB (q0.dd) (a0.l5.length:Int))&&(cB (q0.reach) (a0.reaches.length:Int)))&&(aK ([0,q0.due,a0.hours]))) a1)then .inr ()else .inl ())
def Fo (a0:ah)(a1:Int):Unit:=(bif(dw (((aK ([1,a0.hours,4096]))&&(aK ([0,a0.apa.start,a0.apa.cap,1099511627776])))&&(decide ((a0.reaches.length:Int) > 0))) a1)then(match aj (dT a0 a1) a0.reaches.length 0 ()with| .inl gl=>default| .inr ly=>(match aj (eA a0 a1) a0.apg.length 0 ()with| .inl apR=>default| .inr s_1=>(match aj (dU a0 a1) a0.l5.length 0 ()with| .inl apG=>default| .inr s_2=>(match aj (dV a0 a1) a0.ai.length 0 ()with| .inl aqT=>default| .inr s_3=>(match aj (fh a0 a1) a0.apb.length 0 ()with| .inl ao7=>default| .inr s_4=>())))))else default)
def fQ (a0:ah)(a1:Int):Bool:=(bif(dw (((aK ([1,a0.hours,4096]))&&(aK ([0,a0.apa.start,a0.apa.cap,1099511627776])))&&(decide ((a0.reaches.length:Int) > 0))) a1)then(match aj (dT a0 a1) a0.reaches.length 0 ()with| .inl gl=>false| .inr ly=>(match aj (eA a0 a1) a0.apg.length 0 ()with| .inl apR=>false| .inr s_1=>(match aj (dU a0 a1) a0.l5.length 0 ()with| .inl apG=>false| .inr s_2=>(match aj (dV a0 a1) a0.ai.length 0 ()with| .inl aqT=>false| .inr s_3=>(match aj (fh a0 a1) a0.apb.length 0 ()with| .inl ao7=>false| .inr s_4=>true)))))else false)
@[go_sem] def BD:List SV->Option Con:=(pD .al λa0=>(pI λa1=>(pE (.may (fQ a0 a1) (.tup []) (.iface 194 (.int .i64 a1))))))
theorem Ap:zs Tryz.prog 62 BD:=by
 have hG:=mG (cp uM (cn [.sl .int] pF (cp De (cp rq (cn [.st .al,.st .right] Df C1))))) C1;refine fN hG Tryz.f62 [] (ax λa0=>(az λa1=>(am (λhp=>?_))));dsimp only[an]at hp;refine⟨Y2 rfl,(λid st=>bif Nat.beq id 0 then some (LCR (ρ:=Unit) (σ:=Unit) 1 [] [0] (λE ly=>⟨[(1,.v (.int .i64 a1)),(2,.ptr 0 0),(38,.rs .reach a0.reaches),(39,.v (.int .i64 (a0.reaches.length:Int))),(40,.v (.int .i64 (E:Int)))],[.cells (cellsOf .al a0)]⟩) (dT a0 a1) pT a0.reaches.length () (a0.reaches.length<=aH) (λ_=>.pan (.iface 194 (.int .i64 a1))) (λgl=>⟨[],[.dead]⟩) st)else bif Nat.beq id 2 then some (LCR (ρ:=Unit) (σ:=Unit) 1 [] [0] (λV X=>⟨[(1,.v (.int .i64 a1)),(2,.ptr 0 0),(52,.rs .apL a0.apg),(53,.v (.int .i64 (a0.apg.length:Int))),(54,.v (.int .i64 (V:Int)))],[.cells (cellsOf .al a0)]⟩) (eA a0 a1) pT a0.apg.length () (a0.apg.length<=aH) (λ_=>.pan (.iface 194 (.int .i64 a1))) (λapR=>⟨[],[.dead]⟩) st)else bif Nat.beq id 4 then some (LCR (ρ:=Unit) (σ:=Unit) 1 [] [0] (λU O=>⟨[(1,.v (.int .i64 a1)),(2,.ptr 0 0),(66,.rs .dd a0.l5),(67,.v (.int .i64 (a0.l5.length:Int))),(68,.v (.int .i64 (U:Int)))],[.cells (cellsOf .al a0)]⟩) (dU a0 a1) pT a0.l5.length () (a0.l5.length<=aH) (λ_=>.pan (.iface 194 (.int .i64 a1))) (λapG=>⟨[],[.dead]⟩) st)else bif Nat.beq id 6 then some (LCR (ρ:=Unit) (σ:=Unit) 1 [] [0] (λk_3 s_3=>⟨[(1,.v (.int .i64 a1)),(2,.ptr 0 0),(103,.rs .right a0.ai),(104,.v (.int .i64 (a0.ai.length:Int))),(105,.v (.int .i64 (k_3:Int)))],[.cells (cellsOf .al a0)]⟩) (dV a0 a1) pT a0.ai.length () (a0.ai.length<=aH) (λ_=>.pan (.iface 194 (.int .i64 a1))) (λaqT=>⟨[],[.dead]⟩) st)else bif Nat.beq id 8 then some (LCR (ρ:=Unit) (σ:=Unit) 1 [] [0] (λW Y=>⟨[(1,.v (.int .i64 a1)),(2,.ptr 0 0),(116,.rs .apX a0.apb),(117,.v (.int .i64 (a0.apb.length:Int))),(118,.v (.int .i64 (W:Int)))],[.cells (cellsOf .al a0)]⟩) (fh a0 a1) pT a0.apb.length () (a0.apb.length<=aH) (λ_=>.pan (.iface 194 (.int .i64 a1))) (λao7=>⟨[],[.dead]⟩) st)else none),?_,?_⟩;unfold ae Tryz.f62;simp only[ak,true_and,and_true];refine⟨?_,?_,?_,?_,?_⟩;refine bL mixed aB hG kr (λ_=>rfl) (a0.reaches.length:Int) rfl fj (λhb0 E ly aqw _ hw hc=>⟨L0,ag _,?_⟩) (λhb0 ly hc=>?_);exact bB (jl [0]);exact bC (jl [0]);refine bL mixed aB hG kr (λ_=>rfl) (a0.apg.length:Int) rfl fj (λhb1 V X aqy _ hw hc=>⟨L0,ag _,?_⟩) (λhb1 X hc=>?_);exact bB (jl [0]);exact bC (jl [0]);refine bL mixed aB hG kr (λ_=>rfl) (a0.l5.length:Int) rfl fj (λhb2 U O hlt2 _ hw hc=>⟨L0,ag _,?_⟩) (λhb2 O hc=>?_);exact bB (jl [0]);exact bC (jl [0]);refine bL mixed aB hG kr (λ_=>rfl) (a0.ai.length:Int) rfl fj (λhb3 k_3 s_3 hlt3 _ hw hc=>⟨L0,ag _,?_⟩) (λhb3 s_3 hc=>?_);exact bB (jl [0]);exact bC (jl [0]);refine bL mixed aB hG kr (λ_=>rfl) (a0.apb.length:Int) rfl fj (λhb4 W Y asH _ hw hc=>⟨L0,ag _,?_⟩) (λhb4 Y hc=>?_);exact bB (jl [0]);exact bC (jl [0]);unfold ae Tryz.f62;try unfold Fo
 try unfold fQ
 exact zq2
def aw (d:ah):Int:=(bif(dw (((((decide ((d.reaches.length:Int)<=64))&&(decide ((d.l5.length:Int)<=600)))&&(decide ((d.apg.length:Int)<=32)))&&(decide ((d.ai.length:Int)<=256)))&&(decide ((d.apb.length:Int)<=256))) 2)then(bif(fQ d 191)then 0 else 191)else 2)
@[go_sem] def Fq:List SV->Option Con:=(pD .al λd=>(pE (.det True (.v (.int .i64 (aw d))))))
theorem asq(h:p:=by simp only[go_sem,SH,Pg,acD];all_goals exact cl):p:=h
theorem nF:zs Tryz.prog 22 Fq:=by
 have hG:=mG (cp uM (cn [.st .al,.o] Ap C1)) C1;refine acg Vy [.o] mixed aB hG (fn:=Tryz.f22) (c0:=SH (ae Tryz.f22)) (c1:=Pg (Pg (ae Tryz.f22))) (i1:=ar2 (SH (Pg (ae Tryz.f22)))) (o1:=ahd 0 (SH (Pg (ae Tryz.f22)))) (o2:=ahd 1 (SH (Pg (ae Tryz.f22)))) (t3:=3) (q:=2) (tys:= #[]) kr kr kr (by refine⟨?_,?_,?_⟩ <;>kernel_rfl) (by refine⟨?_,?_,?_⟩ <;>kernel_rfl) (Y2 rfl) kr kr (ax λd=>(am (λE=>?_)));dsimp only[an]at E;refine⟨Y2 rfl,L0,L0,1,?_,?_,?_⟩;unfold ae Tryz.f22;simp only[SH,ak,and_self,true_and,and_true];unfold ae Tryz.f22;simp only[Pg];simp only[ak,and_self,true_and,and_true];unfold ae Tryz.f22;try unfold aw
 exact asq
def oE (x:Order):Int:=x.hour
@[go_sem] def mI:List SV->Option Con:=(pD .order λx=>(pE (.det True (.v (.int .i64 (oE x))))))
theorem xb:zs Tryz.prog 248 mI:=by
 have hG:=mG C1 C1;refine fN hG Tryz.f248 [.o] (ax λx=>(am (λE=>?_)));dsimp only[an]at E;refine⟨Y2 rfl,L0,ag _,?_⟩;unfold ae Tryz.f248;try unfold oE
 exact zq2
def sN (x:Order):Int:=(bif x.W1 then 1 else 0)
@[go_sem] def pG:List SV->Option Con:=(pD .order λx=>(pE (.det True (.v (.int .i64 (sN x))))))
theorem Aq:zs Tryz.prog 249 pG:=by
 have hG:=mG C1 C1;refine fN hG Tryz.f249 [.o] (ax λx=>(am (λE=>?_)));dsimp only[an]at E;refine⟨Y2 rfl,L0,ag _,?_⟩;unfold ae Tryz.f249;try unfold sN
 exact zq2
def oF (x:Order):Int:=x.index
@[go_sem] def mJ:List SV->Option Con:=(pD .order λx=>(pE (.det True (.v (.int .i64 (oF x))))))
theorem xc:zs Tryz.prog 250 mJ:=by
 have hG:=mG C1 C1;refine fN hG Tryz.f250 [.o] (ax λx=>(am (λE=>?_)));dsimp only[an]at E;refine⟨Y2 rfl,L0,ag _,?_⟩;unfold ae Tryz.f250;try unfold oF
 exact zq2
end Go.Sx
end
section
namespace Go.Proofs
open Go.Shelf
def Tryz.aq_:Go.Shelf.Ren:=⟨λ|20=>73|n=>n,λ|22=>35|n=>n,λ|n=>n⟩
theorem Tryz.cpI:Go.Proofs.Lays2.n20 Tryz.prog Tryz.aq_:= {
 mixed:=by kernel_rfl
 f20:=Tryz.func73.trans (congrArg some (by kernel_rfl))
 t0:=Tryz.underlying0
 a0:=Tryz.isAgg0
 z0:=Tryz.sizeOf0
 v0:=Tryz.zeroValue0
 t3:=Tryz.underlying3
 a3:=Tryz.isAgg3
 z3:=Tryz.sizeOf3
 v3:=Tryz.zeroValue3
 t4:=Tryz.underlying4
 a4:=Tryz.isAgg4
 z4:=Tryz.sizeOf4
 v4:=Tryz.zeroValue4
 t22:=Tryz.underlying35
 a22:=Tryz.isAgg35
 z22:=Tryz.sizeOf35
 v22:=Tryz.zeroValue35
 i3:=by kernel_rfl}
end Go.Proofs
namespace Go.Sx
open Go.RowKit Go.Shelf Go.Lib Go.Sort Go.Proofs
def cpI (l:List Int):List Int:=Lib.compact l
theorem Y0 (l:List Int):(cpI l).length<=l.length:=by
 unfold cpI Lib.compact Lib.compactUpTo;rw[amM];exact alW (amv _ _) (by simp)
noncomputable def VX:List SV->List Ob->Option apd:=i7 (λx_:List Int=>[.os 0]) (λx_=>[.row .int x_]) (λx_=>ft True (.os 1) [.dead,.row .int (cpI x_)])
@[go_sem]def ahO (l_:List Int):VX ([.os 0]) ([.row .int l_])=some (ft True (.os 1) [.dead,.row .int (cpI l_)]):=fF (A:=λx_:List Int=>[.os 0]) (H:=λx_=>[.row .int x_]) (K:=λx_=>ft True (.os 1) [.dead,.row .int (cpI x_)]) (x:=l_)
section
variable {P:Program}{ρ:Ren}
theorem Hs (L:Lays2.n20 P ρ)(he:∀ (args:Array Value) (w:World),(callFunc (ρ.f 20) args).run P w=.ok (.enter (ρ.f 20) args) w):ape P (ρ.f 20) VX:=by
 refine⟨λl h c hc args w=>he args w,λl h c hc hp F own w vs O hvs=>?_⟩;obtain⟨l0,rfl,rfl,rfl⟩:=dP hc;clear hc;obtain⟨hsz,ap6⟩:=hvs;have r0:=ap6 0 _ rfl;have X:vs= #[vs.getD 0 undef]:=by
  apply ao3;simpa using hsz;intro i h1 h2;simp only[alL,alS]at hsz;match i,h1,h2 with
  |0,h1,_=>simp[Array.getD,h1]|i+1,h1,_=>omega
 generalize vs.getD 0 undef=v0 at r0 X;subst X;obtain⟨hd,Y,rfl,_⟩:=ij r0;obtain⟨hd',o0',U⟩:=O.at (id:=0) (o:=.row .int l0) rfl rfl;rw[Y]at o0';cases o0';have U:apm F own w .int l0 hd.v hd.bs:=U;have hdom:∀ i h2,own i=some h2->i=0:=λi h2 e=>by have:=O.dom i h2 e;simp at this;exact this
 have fin:∀ (W:Value) (w':World),pj W=true->apm F (λi=>if i=1 then some { hd with v:=W}else if i=0 then some { hd with bs:=[]}else none) w' .int (cpI l0) W hd.bs->w.heap.size<=w'.heap.size->w'.os=w.os->w'.tape=w.tape->w'.output=w.output->(∀ c,c<w.heap.size->c ∉ hd.bs->w'.heap[c]? =w.heap[c]?)->
   ∃ r bn,(ft True (.os 1) [.dead,.row .int (cpI l0)]).post r/\J5 F w own 1 (.returned W) bn w' ((ft True (.os 1) [.dead,.row .int (cpI l0)]).res r):=by
  intro W w' h1 hr hs q1 q2 q3 hold;refine⟨(),λi=>if i=1 then some { hd with v:=W}else if i=0 then some { hd with bs:=[]}else none,trivial,⟨W,rfl,?_⟩,?_,?_,by simp⟩;have:=Rel.os (F:=F) (own:=λi=>if i=1 then some { hd with v:=W}else if i=0 then some { hd with bs:=[]}else none) (w:=w') (id:=1) (hd:= { hd with v:=W}) (by simp) h1;exact this;refine⟨λid h2 e=>?_,λb hb=>alT (O.ao1 b hb) hs,λid h2 b e hb=>?_,λi j hi hj b e1 e2 b1 b2=>?_,λid h2 b e hb=>?_,λid E=>?_⟩;show id<2;by_cases h1:id=1
  omega;by_cases h0:id=0
  omega;simp[h1,h0]at e;grind [O.apart 0 hd b Y]
  grind
  have:=O.lt 0 hd b Y (by grind);omega;match id,E with
  |0,E=>cases E
  |1,_=>
   refine⟨{ hd with v:=W},by simp,?_⟩;exact hr
  |i+2,E=>rw[mQ (by simp)]at E;cases E
  refine⟨λid h2 e=>?_,λid h2 b e hb ho=>?_,q1,q2,q3,hs,λc hc=>hold c hc.1 λhm=>hc.2 ⟨0,hd,Y,hm⟩⟩;have:=hdom id h2 e;subst this;have e:own 0=some h2:=e;rw[Y]at e;cases e;exact⟨{ hd with bs:=[]},by simp,rfl,rfl,rfl⟩;refine ho.2 ⟨0,hd,Y,?_⟩;grind
 rcases U with⟨a,e1,rfl,e2⟩ | ⟨b,o,cap,cells,ty,e1,e2,e3,e4,e5,e6,e7⟩;rw[e1];refine(Any.slices_Compact_int_empty L a 0 w).mono λe w' he=>?_;obtain⟨rfl,rfl⟩:=he;exact fin _ _ rfl (.inl ⟨a,rfl,rfl,e2⟩) (alJ _) rfl rfl rfl λ_ _ _=>rfl;have V:b∈hd.bs:=by rw[e2];simp
 have hbw:b<w.heap.size:=O.lt 0 hd b Y V;have hH:Holds (Value.int .i64) w b o (l0:List Int).toArray:=by
  intro t ht;simp only[anB]at ht;have q1:=By xO e7 (i:=t) (j:=0) ht (by decide);have e0:aa .int=1:=rfl;rw[e0,anD,amK]at q1;constructor
  unfold World.cell?;rw[e3];dsimp only;rw[q1,getElem!_pos _ t (by simpa using ht)];rfl;unfold World.frozen?;rw[e3];simp
 have hlen:l0.length<=9223372036854775807:=by unfold aH at e6;omega
 have hall:=Any.slices_Compact_int L b o cap l0 w hH hlen e5;rw[e1];refine hall.mono λe w' he=>?_;obtain⟨rfl,n,rfl⟩:=he;have hlS:(cpI l0).length<=l0.length:=Y0 l0;have hc1:aa .int=1:=rfl;generalize hD:(Lib.compact l0++List.replicate (l0.length - (Lib.compact l0).length) 0:List Int)=D;have hDl:D.length=l0.length:=by
  have:(Lib.compact l0).length<=l0.length:=hlS;rw[<-hD];simp;omega
 have hsb:(putRow (Value.int .i64) (Sort.ahead w n) b o D.toArray).heap[b]? =some (.cells (putCells (Value.int .i64) o D.toArray cells) ty (0,0)):=aax (w:=Sort.ahead w n) e3 _ _;have hsz':w.heap.size<=(putRow (Value.int .i64) (Sort.ahead w n) b o D.toArray).heap.size:=by
  unfold putRow mapBlock Sort.ahead;simp
 refine fin _ _ rfl (.inr ⟨b,o,cap,_,ty,rfl,e2,hsb,?_,alW hlS e5,by show(cpI l0).length<=aH;omega,Bz xO λi j hi hj=>?_⟩) hsz' rfl rfl rfl λc hc hn=>VW (w:=Sort.ahead w n) (show c≠b from λe=>hn (by rw[e];exact V)) _ _;unfold putCells;simpa using e4;rw[hc1]at hj |-;have hj0:j=0:=by omega
 subst hj0;have hi2:i<D.length:=by rw[hDl];omega
 rw[anD,amK,MX (by simpa using hi2) (by simp only[hc1,anD]at e4 e5;omega)];have hg:D[i]=(cpI l0)[i]'hi:=by
  subst hD;rw[List.getElem_append_left];rfl
 simp[tB,cellsOf,aav,hg]
end
theorem ac2:ape Tryz.prog 73 VX:=Hs Tryz.cpI λargs w=>by kernel_rfl
end Go.Sx
end
section
namespace Go.Sx
open Go.Proofs
open IntKind (i64 u64)
def lI (n:Int)(d:Int):Int:=(i64.wrap (Int.tdiv (i64.wrap (n - (Int.tmod (i64.wrap ((Int.tmod n d)+d)) d))) d))
def rR (n:Int)(d:Int):Prop:=(d≠0/\(d≠0/\d≠0))
@[go_sem] def Kv:List SV->Option Con:=(pI λn=>(pI λd=>(pE (.det (rR n d) (.v (.int .i64 (lI n d)))))))
theorem Ht:zs Tryz.prog 223 Kv:=by
 have hG:=mG C1 C1;refine fN hG Tryz.f223 [.o] (az λn=>(az λd=>(am (λE=>?_))));dsimp only[an]at E;unfold rR at E;refine⟨Y2 rfl,L0,ag _,?_⟩;unfold ae Tryz.f223;try unfold lI
 exact zq2
def eM (a:B1)(n:Int):Int×Int×Int:=(bif((aQ a) !=0)then(0,0,(aQ a))else(bif((decide (n< (-1073741824))) ||(decide (n > 1073741824)))then(0,0,1)else((lI (i64.wrap (a.n*n)) a.d),(i64.wrap (0 - (lI (i64.wrap ((i64.wrap (0 - a.n))*n)) a.d))),0)))
def yK (a:B1)(n:Int):Prop:=(((aQ a) !=0)=false->(((decide (n< (-1073741824))) ||(decide (n > 1073741824)))=false->((rR (i64.wrap (a.n*n)) a.d)/\(rR (i64.wrap ((i64.wrap (0 - a.n))*n)) a.d))))
theorem Hu {a:B1}(h:(aQ a !=0)=false):1<=a.d:=by
 unfold aQ at h;by_cases hd:a.d<1
 simp[hd]at h;omega
theorem Ft (a:B1)(n:Int):yK a n:=λh _=>by
 have:=Hu h;exact⟨⟨by omega,by omega,by omega⟩,⟨by omega,by omega,by omega⟩⟩
@[go_sem] def Hv:List SV->Option Con:=(pD .ratio λa=>(pI λn=>(pE (.det True (.tup [.v (.int .i64 ((eM a n).1)),.v (.int .i64 ((eM a n).2.1)),.v (.int .i64 ((eM a n).2.2))])))))
theorem xd:zs Tryz.prog 151 Hv:=by
 have hG:=mG (cp oD (cp Ht C1)) C1;refine fN hG Tryz.f151 [.o,.o,.o] (ax λa=>(az λn=>(am (λE=>?_))));dsimp only[an]at E;have E:=Ft a n;unfold yK at E;refine⟨Y2 rfl,L0,ag _,?_⟩;unfold ae Tryz.f151;try unfold eM
 exact zq2
def nQ (n:Int)(d:Int):B1×Int:=letI q3:=({ n:=0,d:=0}:B1);letI q6:=c9 n;letI q7:=c9 d;letI q0:=((MC (Int.toNat q6) (Int.toNat q7):Nat):Int);letI q1:=u64.wrap (Int.tdiv q6 q0);letI q2:=u64.wrap (Int.tdiv q7 q0);letI q4:=i64.wrap q1;letI q5:=i64.wrap q2;(bif(d==0)then(q3,120)else(bif(decide ((if q1<q2 then q2 else q1) > 1073741824))then(q3,2)else(bif((decide (n<0)) !=(decide (d<0)))then(({ n:=(i64.wrap (0 - q4)),d:=q5}:B1),0)else(({ n:=q4,d:=q5}:B1),0))))
def rS (n:Int)(d:Int):Prop:=letI q1:=c9 n;letI q2:=c9 d;letI q0:=((MC (Int.toNat q1) (Int.toNat q2):Nat):Int);((d==0)=false->((0<=q1/\0<=q2)/\(q0≠0/\q0≠0)))
@[go_sem] def Kw:List SV->Option Con:=(pI λn=>(pI λd=>(pE (.det (rS n d) (.tup [.agg (cellsOf .ratio ((nQ n d).1)),.v (.int .i64 ((nQ n d).2))])))))
theorem Hw:zs Tryz.prog 337 Kw:=by
 have hG:=mG (cp VC (cp sM C1)) C1;refine fN hG Tryz.f337 [.st .ratio,.o] (az λn=>(az λd=>(am (λE=>?_))));dsimp only[an]at E;unfold rS at E;refine⟨Y2 rfl,L0,ag _,?_⟩;unfold ae Tryz.f337;try unfold nQ
 exact zq5
def gL (a:B1)(b:B1):Int×Int:=((i64.wrap ((i64.wrap (a.n*b.d))+(i64.wrap (b.n*a.d)))),(i64.wrap (a.d*b.d)))
@[go_sem] def Hz:List SV->Option Con:=(pD .ratio λa=>(pD .ratio λb=>(pE (.det True (.tup [.v (.int .i64 ((gL a b).1)),.v (.int .i64 ((gL a b).2))])))))
theorem Fu:zs Tryz.prog 312 Hz:=by
 have hG:=mG C1 C1;refine fN hG Tryz.f312 [.o,.o] (ax λa=>(ax λb=>(am (λE=>?_))));dsimp only[an]at E;refine⟨Y2 rfl,L0,ag _,?_⟩;unfold ae Tryz.f312;try unfold gL
 exact zq2
def gw (a:B1)(b:B1):B1×Int:=(bif(((aQ a) !=0) ||((aQ b) !=0))then(({ n:=0,d:=0}:B1),120)else(((nQ ((gL a b).1) ((gL a b).2)).1),(nQ ((gL a b).1) ((gL a b).2)).2))
def lJ (a:B1)(b:B1):Prop:=((((aQ a) !=0) ||((aQ b) !=0))=false->(rS ((gL a b).1) ((gL a b).2)))
@[go_sem] noncomputable def xe:List SV->Option Con:=(pQ (.agg [.fn 312 [] []]) (pD .ratio λa=>(pD .ratio λb=>(pE (.det (lJ a b) (.tup [.agg (cellsOf .ratio ((gw a b).1)),.v (.int .i64 ((gw a b).2))]))))))
theorem wl:zs Tryz.prog 313 xe:=by
 have hG:=mG (cp oD (cp Fu (cp Hw C1))) C1;refine fN hG Tryz.f313 [.st .ratio,.o] (acO (ax λa=>(ax λb=>(am (λE=>?_)))));dsimp only[an]at E;unfold lJ at E;refine⟨Y2 rfl,L0,ag _,?_⟩;unfold ae Tryz.f313;try unfold gw
 exact zq2
def gZ (a:B1)(b:B1):B1×Int:=(((gw a b).1),(gw a b).2)
def tX (a:B1)(b:B1):Prop:=(lJ a b)
@[go_sem] def MZ:List SV->Option Con:=(pD .ratio λa=>(pD .ratio λb=>(pE (.det (tX a b) (.tup [.agg (cellsOf .ratio ((gZ a b).1)),.v (.int .i64 ((gZ a b).2))])))))
theorem Kx:zs Tryz.prog 278 MZ:=by
 have hG:=mG (cp wl C1) C1;refine fN hG Tryz.f278 [.st .ratio,.o] (ax λa=>(ax λb=>(am (λE=>?_))));dsimp only[an]at E;unfold tX at E;refine⟨Y2 rfl,L0,ag _,?_⟩;unfold ae Tryz.f278;try unfold gZ
 exact zq2
def aP (n:Int)(lo:Int)(hi:Int):Bool:=((decide (n>=lo))&&(decide (n<=hi)))
@[go_sem] def HA:List SV->Option Con:=(pI λn=>(pI λlo=>(pI λhi=>(pE (.det True (.v (.bool (aP n lo hi))))))))
theorem sO:zs Tryz.prog 226 HA:=by
 have hG:=mG C1 C1;refine fN hG Tryz.f226 [.o] (az λn=>(az λlo=>(az λhi=>(am (λE=>?_)))));dsimp only[an]at E;refine⟨Y2 rfl,L0,ag _,?_⟩;unfold ae Tryz.f226;try unfold aP
 exact zq2
def kM (x:bh):Bool:=letI q1:=(x.parts.length:Int) ==0;letI q2:=x.of_==0;letI q3:=x.to==0;letI q0:=(((x.right==0)&&(x.since==0))&&q3)&&q1;(bif(x.kind==1)then(q1&&q2)else(bif(x.kind==2)then(q3&&q2)else(bif(x.kind==3)then((q3&&q1)&&q2)else(bif(x.kind==4)then q0 else(q0&&q2)))))
@[go_sem] def Dg:List SV->Option Con:=(pD .u0 λx=>(pE (.det True (.v (.bool (kM x))))))
theorem BE:zs Tryz.prog 227 Dg:=by
 have hG:=mG C1 C1;refine fN hG Tryz.f227 [.o] (ax λx=>(am (λE=>?_)));dsimp only[an]at E;refine⟨Y2 rfl,L0,ag _,?_⟩;unfold ae Tryz.f227;try unfold kM
 exact zq2
@[go_sem] def fS (d:ah)(l_:List Part)(Q1:Nat)(ly:Int×Int×List (Int×Bool)):Unit⊕(Int×Int×List (Int×Bool)):=letI q1:=l_.getD Q1 default;letI q0:=gZ ({ n:=ly.1,d:=ly.2.1}:B1) (q1.share);(bif(((!(aP (q1.dd) 0 (i64.wrap ((d.l5.length:Int) - 1)))) ||(aL .int .bool ly.2.2 (q1.dd))) ||(decide (q1.share.n<=0)))then .inl ()else(bif(q0.2 !=0)then .inl ()else .inr ((q0.1).n,(q0.1).d,(dH .int .bool ly.2.2 (q1.dd) true))))
def mK (d:ah)(l_:List Part)(Q1:Nat)(ly:Int×Int×List (Int×Bool)):Prop:=letI q0:=l_.getD Q1 default;(d.l5.length<=aH->((((!(aP (q0.dd) 0 (i64.wrap ((d.l5.length:Int) - 1)))) ||(aL .int .bool ly.2.2 (q0.dd))) ||(decide (q0.share.n<=0)))=false->(tX ({ n:=ly.1,d:=ly.2.1}:B1) (q0.share))))
def iO (d:ah)(l_:List Part):Bool:=(match aj (fS d l_) l_.length 0 (0,1,[])with| .inl gl=>false| .inr ly=>((aP (l_.length:Int) 1 16)&&((ly.1==1)&&(ly.2.1==1))))
def mv (d:ah)(l_:List Part):Prop:=(l_.length<=aH->okI (fS d l_) (mK d l_) l_.length 0 (0,1,[]))
@[go_sem] def BF:List SV->Option Con:=(pD .al λd=>(pR .part λl_=>(pE (.det (mv d l_) (.v (.bool (iO d l_)))))))
theorem Ar:zs Tryz.prog 228 BF:=by
 have hG:=mG (cp sO (cp Kx C1)) C1;refine fN hG Tryz.f228 [.o] (ax λd=>(bD λO=>(am (λY=>?_))));dsimp only[an]at Y;unfold mv at Y;refine⟨Y2 rfl,(λid st=>bif Nat.beq id 0 then some (LCR (ρ:=Unit) (σ:=(Int×Int×List (Int×Bool))) 3 [] [0,1,2] (λV E=>⟨[(1,.rs .part O),(2,.ptr 0 0),(5,.ptr 2 0),(6,.os 1),(13,.rs .part O),(14,.v (.int .i64 (O.length:Int))),(15,.v (.int .i64 (V:Int)))],[.cells (cellsOf .al d),.mp .int .bool E.2.2 none,.cells [.v (.int .i64 E.1),.v (.int .i64 E.2.1)]]⟩) (fS d O) (mK d O) O.length (0,1,[]) (O.length<=aH) (λ_=>.ret) (λW=>⟨[(4,.v (.bool false))],[.dead,.dead,.dead]⟩) st)else none),?_,?_⟩;unfold ae Tryz.f228;simp only[ak,true_and,and_true];refine bL mixed aB hG kr (λ_=>rfl) (O.length:Int) rfl fj (λhb0 V E X U hw hc=>⟨L0,ag _,?_⟩) (λhb0 E hc=>?_);unfold mK at U;try simp only[hw,alI]at U
 exact bB (jl [0,1,2]);exact bC (jl [0,1,2]);unfold ae Tryz.f228;try unfold iO
 exact zq2
def dp (a0:ah)(a1:List (Int×bh))(a2:bh):Bool:=letI q1:=i64.wrap ((a0.l5.length:Int) - 1);letI q0:=((aP a2.right 0 (i64.wrap ((a0.ai.length:Int) - 1)))&&((a0.ai.getD (Int.toNat a2.right) default).kind==1))&&(aP a2.since 0 q1);letI q2:=aL .int .u0 a1 a2.of_;(bif((((!(aP a2.no 0 1048576)) ||(!(aP a2.at_ 0 4096))) ||(!(aP a2.known 0 1048576))) ||(!(kM a2)))then false else(bif(a2.kind==1)then((q0&&(aP a2.to 0 q1))&&(a2.to !=a2.since))else(bif(a2.kind==2)then(q0&&(iO a0 a2.parts))else(bif(a2.kind==3)then q0 else(bif(a2.kind==4)then(((wE .int .u0 a1 a2.of_)&&(q2.kind !=4))&&(decide (a2.known>=q2.known)))else false)))))
def nG (a0:ah)(a1:List (Int×bh))(a2:bh):Prop:=letI q1:=(a0.ai.length:Int);letI q0:=aP a2.right 0 (i64.wrap (q1 - 1));(((((!(aP a2.no 0 1048576)) ||(!(aP a2.at_ 0 4096))) ||(!(aP a2.known 0 1048576))) ||(!(kM a2)))=false->(a0.l5.length<=aH->(a0.ai.length<=aH->((q0=true->(0<=a2.right/\a2.right<q1))/\((a2.kind==1)=false->((a2.kind==2)=true->(((q0&&((a0.ai.getD (Int.toNat a2.right) default).kind==1))&&(aP a2.since 0 (i64.wrap ((a0.l5.length:Int) - 1))))=true->(mv a0 a2.parts))))))))
@[go_sem] def Dh:List SV->Option Con:=(pD .al λa0=>(pM .int .u0 λa1=>(pD .u0 λa2=>(pE (.det (nG a0 a1 a2) (.v (.bool (dp a0 a1 a2))))))))
theorem BG:zs Tryz.prog 155 Dh:=by
 have hG:=mG (cp sO (cn [.st .u0] BE (cn [.st .al,.sl .part] Ar C1))) C1;refine fN hG Tryz.f155 [.o] (ax λa0=>(acM λa1=>(ax λO=>(am (λE=>?_)))));dsimp only[an]at E;unfold nG at E;refine⟨Y2 rfl,L0,ag _,?_⟩;unfold ae Tryz.f155;try unfold dp
 exact zq2
def eY (x:bh):Bool:=(decide ((x.parts.length:Int) > 16))
@[go_sem] def zj:List SV->Option Con:=(pD .u0 λx=>(pE (.det True (.v (.bool (eY x))))))
theorem yi:zs Tryz.prog 154 zj:=by
 have hG:=mG C1 C1;refine fN hG Tryz.f154 [.o] (ax λx=>(am (λE=>?_)));dsimp only[an]at E;refine⟨Y2 rfl,L0,ag _,?_⟩;unfold ae Tryz.f154;try unfold eY
 exact zq2
@[go_sem] def cI (s_:List bh)(Q1:Nat)(ly:Unit):Int⊕Unit:=(bif(eY (s_.getD Q1 default))then .inl (Q1:Int)else .inr ())
def dZ (s_:List bh):Int:=(match aj (cI s_) s_.length 0 ()with| .inl gl=>gl| .inr ly=>(-1))
@[go_sem] def fg:List SV->Option Con:=(pR .u0 λs_=>(pFn 154 (pE ((pE (.det True (.v (.int .i64 (dZ s_)))))))))
theorem g5:zs Tryz.prog 225 fg:=by
 have hG:=mG (cn [.st .u0] yi C1) C1;refine fN hG Tryz.f225 [.o] (bD λO=>(mr (am ((am (λX=>?_))))));dsimp only[an]at X;refine⟨Y2 rfl,(λid st=>bif Nat.beq id 0 then some (LCR (ρ:=Int) (σ:=Unit) 0 [] [] (λU V=>⟨[(0,.rs .u0 O),(1,.fn 154 [] []),(7,.v (.int .i64 (O.length:Int))),(8,.v (.int .i64 (U:Int)))],[]⟩) (cI O) pT O.length () (O.length<=aH) (λ_=>.ret) (λE=>⟨[(4,.v (.int .i64 E))],[]⟩) st)else none),?_,?_⟩;unfold ae Tryz.f225;simp only[ak,true_and,and_true];refine bL mixed aB hG kr (λ_=>rfl) (O.length:Int) rfl fj (λhb0 U V W _ hw hc=>⟨L0,ag _,?_⟩) (λhb0 V hc=>?_);exact bB (jl []);exact bC (jl []);unfold ae Tryz.f225;try unfold dZ
 exact zq2
@[go_sem] noncomputable def g6:List SV->Option Con:=λl=>(fg l)
def lK:zs Tryz.prog 225 g6:=g5
def aN (s_:List bh):Bool:=(decide ((dZ s_)>=0))
@[go_sem] def lu:List SV->Option Con:=(pR .u0 λs_=>(pFn 154 (pE ((pE (.det True (.v (.bool (aN s_)))))))))
theorem asn {p:Prop}(h:p:=by simp only[go_sem,g6];all_goals exact cl):p:=h
theorem kW:zs Tryz.prog 153 lu:=by
 have hG:=mG (cn [.sl .u0,.o] lK C1) C1;refine fN hG Tryz.f153 [.o] (bD λO=>(mr (am ((am (λE=>?_))))));dsimp only[an]at E;refine⟨Y2 rfl,L0,ag _,?_⟩;unfold ae Tryz.f153;try unfold aN
 exact asn
@[go_sem] def eB (d:ah)(l_:List bh)(Q1:Nat)(ly:List (Int×bh)):Unit⊕(List (Int×bh)):=letI q0:=l_.getD Q1 default;(bif(((decide ((Q1:Int) > 0))&&(decide (q0.no<=(l_.getD (Int.toNat (i64.wrap ((Q1:Int) - 1))) default).no))) ||(!(dp d ly q0)))then .inl ()else .inr (dH .int .u0 ly (q0.no) q0))
def mL (d:ah)(l_:List bh)(Q1:Nat)(ly:List (Int×bh)):Prop:=letI q0:=i64.wrap ((Q1:Int) - 1);letI q1:=decide ((Q1:Int) > 0);letI q2:=l_.getD Q1 default;((q1=true->(0<=q0/\q0< (l_.length:Int)))/\((q1&&(decide (q2.no<=(l_.getD (Int.toNat q0) default).no)))=false->(nG d ly q2)))
def a8 (d:ah)(l_:List bh):Int:=(bif((aw d) !=0)then(aw d)else(bif((decide ((l_.length:Int) > 512)) ||(aN l_))then 2 else(match aj (eB d l_) l_.length 0 ([])with| .inl gl=>250| .inr ly=>0)))
def jS (d:ah)(l_:List bh):Prop:=(((aw d) !=0)=false->(l_.length<=aH->(((decide ((l_.length:Int) > 512)) ||(aN l_))=false->(l_.length<=aH->okI (eB d l_) (mL d l_) l_.length 0 ([])))))
@[go_sem] def BH:List SV->Option Con:=(pD .al λd=>(pR .u0 λl_=>(pE (.det (jS d l_) (.v (.int .i64 (a8 d l_)))))))
theorem tY:zs Tryz.prog 98 BH:=by
 have hG:=mG (cn [.st .al] nF (cn [.sl .u0,.o] kW (cn [.st .al,.mp .int .u0,.st .u0] BG C1))) C1;refine fN hG Tryz.f98 [.o] (ax λd=>(bD λE=>(am (λY=>?_))));dsimp only[an]at Y;unfold jS at Y;refine⟨Y2 rfl,(λid st=>bif Nat.beq id 0 then some (LCR (ρ:=Unit) (σ:=(List (Int×bh))) 2 [] [0,1] (λV O=>⟨[(1,.rs .u0 E),(2,.ptr 0 0),(5,.os 1),(21,.rs .u0 E),(22,.v (.int .i64 (E.length:Int))),(23,.v (.int .i64 (V:Int)))],[.cells (cellsOf .al d),.mp .int .u0 O none]⟩) (eB d E) (mL d E) E.length ([]) (E.length<=aH) (λ_=>.ret) (λW=>⟨[(4,.v (.int .i64 250))],[.dead,.dead]⟩) st)else none),?_,?_⟩;unfold ae Tryz.f98;simp only[ak,true_and,and_true];refine bL mixed aB hG kr (λ_=>rfl) (E.length:Int) rfl fj (λhb0 V O X U hw hc=>⟨L0,ag _,?_⟩) (λhb0 O hc=>?_);unfold mL at U;try simp only[hw,alI]at U
 exact bB (jl [0,1]);exact bC (jl [0,1]);unfold ae Tryz.f98;try unfold a8
 exact zq2
@[go_sem] def yj:List SV->Option Con:=pR .u0 λl=>pE (.det (l.length*88<=dI) (.nw .u0 l))
theorem xf:zs Tryz.prog 281 yj:=by
 refine fW (mG C1 C1) Tryz.f281 [(.tmp 2,.u0)] (bD λl=>am λE=>?_);dsimp only[an]at E;refine⟨Y2 rfl,L0,ag _,?_⟩;unfold ae Tryz.f281;simp only[go_sem];intro b O;refine⟨λh=>?_,λ_=>?_⟩;have U:=O h;subst U;rfl;first|exact E|exact⟨E,λ_=>rfl⟩
end Go.Sx
end
