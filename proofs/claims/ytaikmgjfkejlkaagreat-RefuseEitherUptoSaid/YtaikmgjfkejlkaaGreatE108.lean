/- Part of the proof that the law RefuseEither returns true and leaves its arguments as they were, for all arguments of bulk at most 1048576 (the Upto form). -/
import Derived.Test.YtaikmgjfkejlkaaGreatE107
import Derived.Test.YtaikmgjfkejlkaaGreatE106
import Derived.Calls
import Derived.Shelf.SlSortCmp.NoneTotal
import Derived.Shelf.SortM.Plain
import Derived.Shelf.SortM.SortNone
import Derived.Ground.SlgmProg
import Derived.Shelf.Slices.CompactI
import Derived.Test.YtaikmgjfkejlkaaGreatProg
set_option linter.all false
set_option maxHeartbeats 4000000
set_option maxRecDepth 100000
section
namespace Go.Sx
open Go.RowKit
def VI (k:Tag)(i:Nat)(t:List (Nat×SV))(h:List Ob):SV->St
 | .v (.slice none 0 0) =>⟨(i,.os h.length)::t,h++[.row k []]⟩|_=>⟨t,h⟩
def YC (k:Tag)(id off:Nat)(t:List (Nat×SV))(h:List Ob)(l:List SV):Option SV->St
 |some (.v (.slice none 0 0)) =>⟨t,cL h id (.cells (l.set off (.os h.length)))++[.row k []]⟩|_=>⟨t,h⟩
def acB (k:Tag)(id off:Nat)(t:List (Nat×SV))(h:List Ob):Ob->St
 | .cells l=>YC k id off t h l (nth l off)|_=>⟨t,h⟩
def YD (k:Tag)(j:Nat)(t:List (Nat×SV))(h:List Ob):SV->St
 | .ptr id off=>acB k id (off+j) t h (ap h id)|_=>⟨t,h⟩
def MM (k:Tag):ResultVar->List (Nat×SV)->List Ob->St
 | .tmp i,t,h=>VI k i t h (lk i t)| .cell i j,t,h=>YD k j t h (lk i t)
def Kl:List (ResultVar×Tag)->St->St
 | [],st=>st|x::r,st=>Kl r (MM x.2 x.1 st.t st.h)
def YE (k:Tag)(r:ResultVar)(st:St):aph st (MM k r st.t st.h):=by
 obtain⟨t,h⟩:=st;cases r with
 |tmp i=>
  show aph _ (VI k i t h (lk i t));unfold VI;split
  rename_i e;exact .slot _ (.refl _) e (.inl ⟨_,rfl⟩);exact .refl _
 |cell i j=>
  show aph _ (YD k j t h (lk i t));unfold YD;split
  unfold acB;split
  rename_i e;unfold YC;split
  rename_i E;exact .cell _ (.refl _) e (by grind [gC]) (.inl ⟨_,rfl⟩);exact .refl _;exact .refl _;exact .refl _
theorem aph.trans {a b c:St}(h1:aph a b)(h2:aph b c):aph a c:=by
 induction h2 with
 |refl=>exact h1|cell o _ E W V O=>exact .cell o O E W V|slot o _ E V O=>exact .slot o O E V|aqm k _ E O=>exact .aqm k O E
def acC (l:List (ResultVar×Tag)):∀ st,aph st (Kl l st):=by
 induction l with
 |nil=>exact λst=>.refl _
 |cons x r E=>exact λst=>(YE x.2 x.1 st).trans (E _)
def MN (l:List (ResultVar×Tag))(rs:List ResultVar)(ts:Tis)(post:SV->Prop)(pp:Value->Prop):Ex->St->Prop
 | .exit _,_=>False| .normal,st=>iP post (Et true rs ts (Kl l st))| .ret,st=>iP post (Et true rs ts (Kl l st))| .pan x,_=>pp x
section
variable {l:List (ResultVar×Tag)}{rs:List ResultVar}{ts:Tis}{post:SV->Prop}{pp:Value->Prop}{st:St}{k:Tag}{i id off:Nat}{t:List (Nat×SV)}{h:List Ob}{m:List SV}
@[go_sem] def afe:= @MN.eq_3
@[go_sem] def YF:= @MN.eq_2
@[go_sem] def aff:= @MN.eq_4
@[go_sem] def ag7:= @Kl.eq_1
@[go_sem]def afg {r:ResultVar}:Kl ((r,k)::l) ⟨t,h⟩=Kl l (MM k r t h):=(rfl)
@[go_sem] def afh:= @MM.eq_1
@[go_sem] def acD:= @MM.eq_2
@[go_sem] def ag8:= @VI.eq_1
@[go_sem]def ajz:VI k i t h (.os id)=⟨t,h⟩:=(rfl)
@[go_sem] def ag9:= @YD.eq_1
@[go_sem] def acE:= @acB.eq_1
@[go_sem] def ag_:= @YC.eq_1
@[go_sem]def ajA:YC k id off t h m (some (.os i))=⟨t,h⟩:=(rfl)
attribute [go_sem] List.set_cons_zero
end
section
variable {P:Program}{ts:Tis}{G:Cons}
theorem VJ (l:List (ResultVar×Tag)) (hm:P.follows .mixedOrders=true) (hts:ts.ok P) (hG:aot P G) {f:FuncId} {fn:Func} {c:Code} (hf:P.funcs[f]? =some fn) (hb:fn.body=some c) (hname:(fn.name== "runtime.NumGoroutine")=false)
  (hc:c7 fn.ntmps c=true) {C:List SV->Option Con}
  (h:∀ l0 O,C l0=some O->an O->l0.length<=fn.ntmps/\∃ L,ak P none fn.ntmps L c/\exec ts G L c ⟨nY 0 l0,[]⟩ (MN l fn.results.toList ts (dZ O) (kZ O))):P1 P f C:=by
 refine⟨λl O _ args w=>?_,λl0 O ap3 hpre F w vs hF hvs=>?_⟩;simp_all [callFunc];obtain⟨hlen,L,hl,hx⟩:=h l0 O ap3 hpre;refine sE (n:=0) (callsIn_of_wp_marks hf hb trivial ?_);have hr:aos F { w:=w,own:=dF} fn.ntmps dF ⟨nY 0 l0,[]⟩ { tmps:=vs++Array.replicate (fn.ntmps - vs.size) undef,defers:=[]} w:=
  ⟨by have:=hvs.1;simp;omega,Dfr.nil,Aj hF,Fr.refl _,λt=>qL hvs _ t⟩
 refine wpIn_mono (rO hm hts hG c hc hl F _ _ hx dF _ w hr) ?_;intro e a' w' hq;have key:∀ X own st,(∀ b,F b->X b)->aos X { w:=w,own:=dF} fn.ntmps own st a' w'->iP (dZ O) (Et true fn.results.toList ts (Kl l st))->LeavesInM (rd none) 0 P fn a'.tmps
   (λe w'=>(∃ s u ee,dZ O s/\e=.returned u/\Handed F w ee w' s u/\Below w.heap.size w w')\/(∃ x,kZ O x/\e=.panicked [{ v:=x,recovered:=false}]/\Below w.heap.size w w')) a'.defers .returning w':=by
  intro X own0' Y hF1 hst0 E;obtain⟨own,hst⟩:=(acC l Y).rel hst0;generalize Kl l Y=st at hst E;refine mZ hst (by simp) λw2 W=>?_;have V:=W.less hF1 rfl;unfold Et at E;cases hs:tA (ri ts st fn.results.toList)with
  |none=>
   simp only[cond_true,RX]at E;rw[hs]at E;exact E.elim
  |some s=>
   obtain⟨u,e1,e2⟩:=Ai (P:=P) hts V hs;refine⟨u,e1,.inl ?_⟩;simp only[cond_true,RX]at E;rw[hs]at E;change iP (dZ O) (CH st.h s)at E;cases hg:CH st.h s with
   |none=>rw[hg]at E;exact E.elim
   |some s2=>
    rw[hg]at E;obtain⟨ee,hh⟩:=QV V e2 hg;exact⟨_,u,ee,E,rfl,hh,qK V.fr⟩
 cases e with
 |normal=>obtain⟨X,own,st,h0,h1,h2⟩:=hq;exact key X own st h0 h1 h2
 |ret=>obtain⟨X,own,st,h0,h1,h2⟩:=hq;exact key X own st h0 h1 h2
 |exit id=>obtain⟨X,own,st,h0,h1,h2⟩:=hq;exact h2.elim
 |panic ch=>
  obtain⟨x,X,own,st,h0,h1,h2,rfl⟩:=hq;exact mZ h1 (by simp) λw2 W=>.inr ⟨x,h2,rfl,qK W.fr⟩
 |_=>exact hq.elim
end
section
universe u
variable {α:Type u}{G:List SV->α->Prop}
def apO:Option (List SV->Option α)->List SV->Option α
 |some q,r=>q r|none,_=>none
@[go_sem] def aha:= @apO.eq_1
@[go_sem] def ahb:= @apO.eq_2
def pFn (f:Nat)(k:List SV->Option (List SV->Option α)):List SV->Option α
 | .fn g [] caps::r=>bif Nat.beq g f then apO (k caps) r else none|_=>none
def pXF (f:Nat)(k:List SV->Option (List SV->Option α)):List SV->Option α
 | .ep [.fn g [] caps] 0::r=>bif Nat.beq g f then apO (k caps) r else none|_=>none
@[go_sem] def akO:= @pFn.eq_1
@[go_sem] def akP:= @pXF.eq_1
variable {r:List SV}
theorem Q7{o:Option (List SV->Option α)}{c:α}(h:apO o r=some c):∃ q,o=some q/\q r=some c:=by
 cases o with
 |none=>cases h|some q=>exact⟨q,rfl,h⟩
variable {f:Nat}{k:List SV->Option (List SV->Option α)}
theorem oC(h:∀ caps q,k caps=some q->∀ l c,q l=some c->G (.fn f [] caps::l) c):∀ l c,pFn f k l=some c->G l c:=λl c hc=>by
 unfold pFn at hc;split at hc
 rename_i g caps r;cases E:Nat.beq g f with
 |false=>rw[E]at hc;cases hc
 |true=>
  rw[E]at hc;obtain⟨q,h1,h2⟩:=Q7 hc;have:=ak0 E;subst this;exact h caps q h1 r c h2
 cases hc
theorem An(h:∀ caps q,k caps=some q->∀ l c,q l=some c->G (.ep [.fn f [] caps] 0::l) c):∀ l c,pXF f k l=some c->G l c:=λl c hc=>by
 unfold pXF at hc;split at hc
 rename_i g caps r;cases E:Nat.beq g f with
 |false=>rw[E]at hc;cases hc
 |true=>
  rw[E]at hc;obtain⟨q,h1,h2⟩:=Q7 hc;have:=ak0 E;subst this;exact h caps q h1 r c h2
 cases hc
def pFB (f:Nat)(k:List SV->Option (List SV->Option α)):List SV->Option α
 | .fn g caps []::r=>bif Nat.beq g f then apO (k caps) r else none|_=>none
def ahc (f:Nat)(k:List SV->Option (List SV->Option α)):List SV->Option α
 | .ep [.fn g caps []] 0::r=>bif Nat.beq g f then apO (k caps) r else none|_=>none
@[go_sem] def akQ:= @pFB.eq_1
@[go_sem] def ajB:= @ahc.eq_1
variable {g:Nat}{c:List SV}{x:SV}
def akR{b:List SV}:pFB f k (.fn g b (x::c)::r)=none:=(rfl)
def ajC{b:List SV}:ahc f k (.ep [.fn g b (x::c)] 0::r)=none:=(rfl)
def akS{b:List SV}:pFn f k (.fn g (x::b) c::r)=none:=(rfl)
def akT{b:List SV}:pXF f k (.ep [.fn g (x::b) c] 0::r)=none:=(rfl)
attribute[go_sem]akR ajC akS akT
end
def pXX {α:Type 1}(t:Tag)(k:t.T->List SV->Option α):List SV->Option α
 | .ep [s] 0::r=>pX t k (s::r)|_=>none
@[go_sem] def ahd:= @pXX.eq_1
def Ao {α:Type 1}{G:List SV->α->Prop}{t:Tag}{k:List t.T->List SV->Option α}(h:∀ n l c,k n l=some c->G (.ep [.rs t n] 0::l) c):∀ l c,pXR t k l=some c->G l c:=λl c hc=>by
 obtain⟨n,r,rfl,h1⟩:=Yz hc;exact h n r c h1
def cl3 {p:Prop}(h:p:=by((repeat' (first|with_reducible refine And.intro ?_ ?_|((with_reducible show _≠_);first|assumption|omega|(simp_all [cy,ei];done) |grind) |with_reducible intro _)) <;>(first|done|assumption|rfl|omega|exact cl|(simp_all only[UX,UY,alP,Sum.inl.injEq,forall_eq',forall_const,true_imp_iff,cond_true,cond_false,and_self];done)))):p:=h
def MO (k:Tag)(K:List k.T->Option aoJ):List Ob->Option aoJ
 | [.row k' l] =>if h:k'=k then K (h▸l)else none|_=>none
@[go_sem]def ajD {k:Tag}{K:List k.T->Option aoJ}{l:List k.T}:MO k K [.row k l]=K l:=by simp[MO]
def MQ {k:Tag}{K:List k.T->Option aoJ}{h:List Ob}{c:aoJ}(E:MO k K h=some c):∃ l,h=[.row k l]/\K l=some c:=by
 unfold MO at E;split at E;split at E
 rename_i e;subst e;exact⟨_,rfl,E⟩;cases E;cases E
end Go.Sx
end
section
namespace Go.Sx
open Go.Proofs
open IntKind (i64)
def Fh (x:Int×Int):List SV:=[.v (.int .i64 x.1),.v (.int .i64 x.2)]
def vD (H:Nat):Nat->List (Int×Int)
 |0=>[]
 |r+1=>((List.range H).map λh:Nat=>((r:Int),(h:Int)))++vD H r
def cO (d:ah):List (Int×Int):=vD d.hours.toNat d.reaches.length
def aai {j:Nat}(E:j<=aN):i64.wrap ((j:Int) - 1)=(j:Int) - 1:=by unfold aN at E;exact aA (by omega) (by omega)
@[go_sem] def mB:List SV->Option Con:=pD .al λd=>pE (.det True (.fn 245 [] [.ep (cellsOf .al d) 0]))
def Ap:P1 Tryz.prog 169 mB:=by
 have hG:aot Tryz.prog (mkG [] []):=oA W2 W2;refine By [.o] mixed aJ hG (fn:=Tryz.f169) (c:=ae Tryz.f169) kr kr kr kr (az λl=>am λE=>?_);refine⟨nbl rfl,L0,ag _,?_⟩;unfold ae Tryz.f169;simp only[go_sem,sJ,sK,Nat.reduceBEq,Nat.reduceLeDiff,Nat.reduceAdd,Nat.reduceSub,Nat.reduceMul]
def YG {α:Type}{l m:List α}{x:α}{k:Nat}(h:l.drop k=x::m):l[k]? =some x/\k+1<=l.length/\l.drop (k+1)=m:=by
 have E:(l.drop k)[0]? =l[k]?:=by grind
 rw[h]at E;refine⟨E.symm,?_,by rw[<-an4,h];rfl⟩;grind
def BF (r H h:Nat):List (Int×Int):=((List.range' h (H - h)).map λh:Nat=>((r:Int),(h:Int)))
variable {r H:Nat}
theorem pC{h:Nat}(E:h<H):BF r H h=((r:Int),(h:Int))::BF r H (h+1):=by
 unfold BF;rw[show H - h=(H - (h+1))+1 by omega,amv];rfl
theorem xa:BF r H H=[]:=by simp[BF]
theorem uL:vD H (r+1)=BF r H 0++vD H r:=by
 grind [BF,vD,List.range_eq_range']
open Classical in
theorem SG (d:ah)(hH:d.hours<9223372036854775808):Ak Tryz.prog 245 (λy=>[y,.ep (cellsOf .al d) 0]) [] ((cO d).map Fh):=by
 unfold cO;generalize hI:(vD d.hours.toNat d.reaches.length).map Fh=items;refine Q0 (λr hr hy=>?_) (λargs w=>by kernel_rfl);have hG:aot Tryz.prog (Al [] [] (itY items r)):=DW (by simp) (by simp) hy;refine⟨λl h=>if l=[.os 0,.ep (cellsOf .al d) 0]/\h=[.ab (r 1)]then some { α:=Nat,pre:=True,post:=λj=>j=0\/j=items.length+1,res:=λj=>.ret (.tup []) [.ab (r j)]}else none,
  ?_,_,if_pos ⟨rfl,rfl⟩,trivial,λj hj=>⟨_,j,_,rfl,hj⟩⟩
 refine oz mixed aJ hG (fn:=Tryz.f245) (c:=ae Tryz.f245) kr kr kr kr λl o con h W=>?_;split at h
 rotate_left
 cases h;rename_i hlo;obtain⟨rfl,rfl⟩:=hlo;cases h;refine⟨nbl rfl,λid st=>bif Nat.beq id 0 then some { α:=Bool,pre:=lk 0 st.t=.os 0/\lk 1 st.t=.ep (cellsOf .al d) 0/\lk 3 st.t=.v (.int .i64 ((d.reaches.length:Int) - 1))/\st.h=[.ab (r 1)]/\d.reaches.length<=aN,post:=λ_=>True,ex:=λb=>bif b then .normal else .ret,out:=λb=>⟨[],[.ab (r (bif b then items.length+1 else 0))]⟩:apc}else none,?_,?_⟩
 ·unfold ae Tryz.f245;simp only[ak,true_and,and_true];refine w7 mixed aJ hG kr λst lc X W=>?_;simp only[go_sem,Nat.reduceBEq,ak3]at X;subst X;obtain⟨t,h⟩:=st;dsimp only at W;obtain⟨h0,h1,h2,rfl,hm⟩:=W;refine⟨Nat×Nat,λx=>⟨[(0,.os 0),(1,.ep (cellsOf .al d) 0),(3,.v (.int .i64 ((x.2:Int) - 1)))],[.ab (r (x.1+1))]⟩,λx=>x.2<=d.reaches.length/\items.drop x.1=(vD d.hours.toNat x.2).map Fh/\x.1<=items.length,λx=>x.2,(0,d.reaches.length),[0],⟨ak2 _,hI.symm,alB _⟩,ak2 _,?_,?_⟩;simp only[go_sem,h0,h1,h2,Nat.reduceBEq,Nat.reduceLeDiff,Nat.reduceAdd,true_and,and_true];rfl
  ·rintro⟨k,j⟩ ⟨hj,O,Y⟩;simp only at hj O Y;cases j with
   |zero=>
    refine⟨L0,_,ag _,λ_ _ q=>q,?_⟩;simp only[go_sem,Fc hr,true_imp_iff,decide_eq_true_eq,ak7,false_imp_iff,Nat.reduceBEq,Nat.reduceLeDiff,Nat.reduceAdd,Nat.reduceSub,Nat.reduceMul,true_and,and_true,implies_true];refine⟨λhn=>absurd hn (by decide),λhn=>?_⟩;have hlen:(vD d.hours.toNat 0).length=items.length - k:=by grind [List.length_map]
    have:(vD d.hours.toNat 0).length=0:=rfl;refine⟨true,[0],?_⟩;have e:items.length+1=k+1:=by omega
    simp only[go_sem,e,Nat.reduceBEq,Nat.reduceLeDiff,Nat.reduceAdd,true_and,and_true];rfl
   |succ j=>
    have ej:((j+1:Nat):Int) - 1=(j:Int):=by omega
    have hw:i64.wrap ((j:Int) - 1)=(j:Int) - 1:=aai (by omega);simp only[ej];refine⟨λid st=>bif Nat.beq id 2 then some { α:=Nat×Bool,pre:=lk 0 st.t=.os 0/\lk 1 st.t=.ep (cellsOf .al d) 0/\lk 3 st.t=.v (.int .i64 (j:Int))/\lk 14 st.t=.v (.int .i64 d.hours)/\lk 15 st.t=.v (.int .i64 0)/\st.h=[.ab (r (k+1))],post:=λx=>x.2=true->items.drop x.1=(vD d.hours.toNat j).map Fh/\x.1<=items.length,ex:=λb=>bif b.2 then .normal else .ret,out:=λb=>⟨[(0,.os 0),(1,.ep (cellsOf .al d) 0),(3,.v (.int .i64 (j:Int)))],[.ab (r (bif b.2 then b.1+1 else 0))]⟩:apc}else none,_,?_,λ_ _ q=>q,?_⟩
    ·simp only[ak,true_and,and_true];refine w7 mixed aJ hG kr λst lc X W=>?_;simp only[go_sem,Nat.reduceBEq,ak3]at X;subst X;obtain⟨t,h⟩:=st;dsimp only at W;obtain⟨i0,i1,i3,i14,i15,rfl⟩:=W;refine⟨Nat×Nat,λx=>⟨[(0,.os 0),(1,.ep (cellsOf .al d) 0),(3,.v (.int .i64 (j:Int))),(14,.v (.int .i64 d.hours)),(15,.v (.int .i64 (x.2:Int)))],[.ab (r (x.1+1))]⟩,λx=>x.2<=d.hours.toNat/\items.drop x.1=(BF j d.hours.toNat x.2++vD d.hours.toNat j).map Fh/\x.1<=items.length,λx=>d.hours.toNat - x.2,(k,0),[0],⟨alB _,by rw[O,uL],Y⟩,ak2 _,?_,?_⟩;simp only[go_sem,i0,i1,i3,i14,i15,Nat.reduceBEq,Nat.reduceLeDiff,Nat.reduceAdd,true_and,and_true];grind
     ·rintro⟨k,g⟩ ⟨hg,V,Y⟩;simp only at hg V Y;refine⟨L0,_,ag _,λ_ _ q=>q,?_⟩;simp only[go_sem,Fc hr,true_imp_iff,decide_eq_true_eq,ak7,false_imp_iff,Nat.reduceBEq,Nat.reduceLeDiff,Nat.reduceAdd,Nat.reduceSub,Nat.reduceMul,true_and,and_true,implies_true];refine⟨λhlt=>?_,λhge=>?_⟩
      ·have E:g<d.hours.toNat:=by omega
       rw[pC E,alr,alt]at V;obtain⟨q1,q2,q3⟩:=YG V;have hw2:i64.wrap ((g:Int)+1)=((g+1:Nat):Int):=Q3 E hH;refine⟨q1,⟨(k+1,g+1),[0],⟨E,q3,q2⟩,by omega,?_⟩,⟨(0,false),[0],(λh=>nomatch h),rfl,?_⟩,(λh=>nomatch h)⟩;all_goals simp only[go_sem,hw2,Nat.reduceBEq,Nat.reduceLeDiff,Nat.reduceAdd,true_and,and_true]
       all_goals (first|done|decide|(repeat' (first|refine And.intro ?_ ?_|rfl|decide)))
      ·have hge':g=d.hours.toNat:=by
        grind
       subst hge';rw[xa,ak_]at V;refine⟨(k,true),[0],λ_=>⟨V,Y⟩,rfl,?_⟩;all_goals simp only[go_sem,Nat.reduceBEq,Nat.reduceLeDiff,Nat.reduceAdd,true_and,and_true]
       grind
    ·simp only[go_sem,true_imp_iff,decide_eq_true_eq,ak7,false_imp_iff,Nat.reduceBEq,Nat.reduceLeDiff,Nat.reduceAdd,Nat.reduceSub,Nat.reduceMul,true_and,and_true,implies_true];refine⟨λ_ b hb=>?_,λhn=>absurd (am6 j) (by grind)⟩;obtain⟨k',b⟩:=b;cases b with
     |true=>
      obtain⟨q1,q2⟩:=hb rfl;simp only[go_sem,hw,Nat.reduceBEq,Nat.reduceLeDiff,Nat.reduceAdd,true_and,and_true];refine⟨(k',j),[0],⟨by omega,q1,q2⟩,Nat.lt_succ_self _,?_⟩;all_goals simp only[go_sem,hw,Nat.reduceBEq,Nat.reduceLeDiff,Nat.reduceAdd,true_and,and_true]
      rfl
     |false=>
      simp only[go_sem,Nat.reduceBEq,Nat.reduceLeDiff,Nat.reduceAdd,true_and,and_true];refine⟨false,[0],rfl,?_⟩;all_goals simp only[go_sem,hw,Nat.reduceBEq,Nat.reduceLeDiff,Nat.reduceAdd,true_and,and_true]
      rfl
 unfold ae Tryz.f245;simp only[go_sem,true_imp_iff,decide_eq_true_eq,Nat.reduceBEq,Nat.reduceLeDiff,Nat.reduceAdd,Nat.reduceSub,Nat.reduceMul,true_and,and_true,implies_true];intro hm;rw[aai hm];refine⟨⟨rfl,hm⟩,λb=>?_⟩;cases b;simp only[go_sem];exact⟨0,_,_,[0],.inl rfl,rfl,ak2 1,by simp only[go_sem,Nat.reduceBEq,Nat.reduceLeDiff,Nat.reduceAdd,true_and,and_true];rfl⟩;simp only[go_sem];exact⟨items.length+1,_,_,[0],.inr rfl,rfl,ak2 1,by simp only[go_sem,Nat.reduceBEq,Nat.reduceLeDiff,Nat.reduceAdd,true_and,and_true];rfl⟩
@[go_sem] def Fi:List SV->Option Con:=pR .order λl=>pE (.det (l.length*32<=d8) (.nw .order l))
theorem Dh:P1 Tryz.prog 168 Fi:=by
 have hG:aot Tryz.prog (mkG [] []):=oA W2 W2;refine VJ [(.tmp 2,.order)] mixed aJ hG (fn:=Tryz.f168) (c:=ae Tryz.f168) kr kr kr kr (bM λl=>am λE=>?_);dsimp only[an]at E;refine⟨nbl rfl,L0,ag _,?_⟩;unfold ae Tryz.f168;simp only[go_sem,Nat.reduceBEq,Nat.reduceLeDiff,Nat.reduceAdd,Nat.reduceSub,Nat.reduceMul,Int.reduceLE,Int.reduceLT,Int.reduceToNat,Int.reduceNeg,reduceCtorEq];intro b O;refine⟨λh=>?_,λ_=>⟨E,λ_=>rfl⟩⟩;have V:=O h;subst V;rfl
def upL (d:ah):Nat->Int->List Int
 |0,_=>[]|f+1,n=>if 0<=n then n::upL d f (d.reaches.getD n.toNat (eG .reach)).up else []
def MR (d:ah):Nat->Int->Prop
 |0,n=>n<0|f+1,n=>0<=n->n<d.reaches.length/\MR d f (d.reaches.getD n.toNat (eG .reach)).up
def ez (d:ah)(n:Int):List Int:=upL d (n.toNat+1) n
def n_ (d:ah)(n:Int):Prop:=MR d (n.toNat+1) n
variable {d:ah}{f:Nat}{n:Int}
theorem VK(h:MR d f n)(hn:0<=n):∃ E,f=E+1/\n<d.reaches.length/\MR d E (d.reaches.getD n.toNat (eG .reach)).up/\upL d f n=n::upL d E (d.reaches.getD n.toNat (eG .reach)).up:=by
 cases f with
 |zero=>grind [MR]
 |succ E=>
  obtain⟨h1,h2⟩:=h hn;simp_all [upL]
theorem DY(hn:¬0<=n):upL d f n=[]:=by
 cases f with
 |zero=>rfl|succ E=>rw[upL,if_neg hn]
def MS (x:Int):List SV:=[.v (.int .i64 x)]
@[go_sem] def CQ:List SV->List Ob->Option aoJ:=λl h=>noH h ((pD .al λd=>pI λn=>pE (fK True (.fn 234 [] [.ptr 0 0,.ptr 1 0]) [.cells [.v (.int .i64 n)],.cells (cellsOf .al d)])) l)
theorem Km:aoH Tryz.prog 160 CQ:=by
 have hG:aot Tryz.prog (mkG [] []):=oA W2 W2;refine oz mixed aJ hG (fn:=Tryz.f160) (c:=ae Tryz.f160) kr kr kr kr λl o E h V=>?_;unfold CQ at h;obtain⟨rfl,h⟩:=QZ h;obtain⟨n,l0,rfl,O⟩:=Kh h;obtain⟨d,l1,rfl,h1⟩:=UT O;obtain⟨rfl,rfl⟩:=w8 h1;refine⟨nbl rfl,L0,ag _,?_⟩;unfold ae Tryz.f160;simp only[go_sem,Nat.reduceBEq,Nat.reduceLeDiff,Nat.reduceAdd,Nat.reduceSub,Nat.reduceMul];refine⟨(),_,_,[1,0],trivial,rfl,?_⟩;simp only[go_sem,Nat.reduceBEq,Nat.reduceLeDiff,Nat.reduceAdd,true_and,and_true];grind
open Classical in
theorem ahe (d:ah)(n0:Int)(W:n_ d n0):Ak Tryz.prog 234 (λy=>[y,.ptr 1 0,.ptr 2 0]) [.cells [.v (.int .i64 n0)],.cells (cellsOf .al d)] ((ez d n0).map MS):=by
 unfold n_ at W;unfold ez;generalize hI:(upL d (n0.toNat+1) n0).map MS=items;refine Q0 (λr hr hy=>?_) (λargs w=>by kernel_rfl);have hG:aot Tryz.prog (Al [] [] (itY items r)):=DW (by simp) (by simp) hy;refine⟨λl h=>if l=[.os 0,.ptr 1 0,.ptr 2 0]/\h=[.ab (r 1),.cells [.v (.int .i64 n0)],.cells (cellsOf .al d)]then some { α:=Nat,pre:=True,post:=λj=>j=0\/j=items.length+1,res:=λj=>.ret (.tup []) [.ab (r j),.dead,.dead]}else none,
  ?_,_,if_pos ⟨rfl,rfl⟩,trivial,λj X=>⟨_,j,_,rfl,X⟩⟩
 refine oz mixed aJ hG (fn:=Tryz.f234) (c:=ae Tryz.f234) kr kr kr kr λl o con h hp=>?_;split at h
 rotate_left
 cases h;rename_i Y;obtain⟨rfl,rfl⟩:=Y;cases h;refine⟨nbl rfl,λid st=>bif Nat.beq id 0 then some { α:=Nat×Bool,pre:=lk 0 st.t=.os 0/\lk 1 st.t=.ptr 1 0/\lk 2 st.t=.ptr 2 0/\st.h=[.ab (r 1),.cells [.v (.int .i64 n0)],.cells (cellsOf .al d)],post:=λj=>j.1=0\/j.1=items.length+1,ex:=λj=>bif j.2 then .ret else .normal,out:=λj=>⟨[],[.ab (r j.1),.dead,.dead]⟩:apc}else none,?_,?_⟩
 ·unfold ae Tryz.f234;simp only[ak,true_and,and_true];refine w7 mixed aJ hG kr λst lc hC hp=>?_;simp only[go_sem,Nat.reduceBEq,ak3]at hC;subst hC;obtain⟨t,h⟩:=st;dsimp only at hp;obtain⟨h0,h1,h2,rfl⟩:=hp;refine⟨Nat×Nat×Int,λx=>⟨[(0,.os 0),(1,.ptr 1 0),(2,.ptr 2 0)],[.ab (r (x.1+1)),.cells [.v (.int .i64 x.2.2)],.cells (cellsOf .al d)]⟩,λx=>MR d x.2.1 x.2.2/\items.drop x.1=(upL d x.2.1 x.2.2).map MS/\x.1<=items.length,λx=>x.2.1,(0,n0.toNat+1,n0),[0,1,2],⟨W,hI.symm,alB _⟩,ak2 _,?_,?_⟩;simp only[go_sem,h0,h1,h2,Nat.reduceBEq,Nat.reduceLeDiff,Nat.reduceAdd,true_and,and_true];decide
  ·rintro⟨k,f,n⟩ ⟨hf,E,hk⟩;simp only at hf E hk;refine⟨L0,_,ag _,λ_ _ q=>q,?_⟩;simp only[go_sem,Fc hr,true_imp_iff,decide_eq_true_eq,ak7,false_imp_iff,Nat.reduceBEq,Nat.reduceLeDiff,Nat.reduceAdd,Nat.reduceSub,Nat.reduceMul,true_and,and_true,implies_true];have O:(upL d f n).length=items.length - k:=by grind [List.length_map]
   refine⟨λhn=>?_,λhn=>?_⟩
   ·obtain⟨f',rfl,e1,e2,e3⟩:=VK hf hn;have V:items[k]? =some (MS n):=by
     have:(items.drop k)[0]? =items[k]?:=by grind
     grind
    rw[e3]at E O;have hk1:k+1<=items.length:=by grind
    have hd':items.drop (k+1)=(upL d f' (d.reaches.getD n.toNat (eG .reach)).up).map MS:=by rw[<-an4,E];rfl
    refine⟨V,⟨⟨hn,e1⟩,(k+1,f',(d.reaches.getD n.toNat (eG .reach)).up),[0,1,2],⟨e2,hd',hk1⟩,Nat.lt_succ_self _,?_⟩,⟨(0,true),[0,1,2],.inl rfl,rfl,?_⟩,λh=>nomatch h⟩;all_goals simp only[go_sem,Nat.reduceBEq,Nat.reduceLeDiff,Nat.reduceAdd,true_and,and_true]
    all_goals (first|done|decide|(repeat' (first|refine And.intro ?_ ?_|rfl|decide)))
   have hn':¬0<=n:=by grind
   rw[DY hn']at O;simp at O;refine⟨(k+1,false),[0,1,2],.inr (by omega),rfl,?_⟩;simp only[go_sem,Nat.reduceBEq,Nat.reduceLeDiff,Nat.reduceAdd,true_and,and_true];decide
 unfold ae Tryz.f234;simp only[go_sem,true_imp_iff,decide_eq_true_eq,Nat.reduceBEq,Nat.reduceLeDiff,Nat.reduceAdd,Nat.reduceSub,Nat.reduceMul,true_and,and_true,implies_true];rintro⟨j,b⟩ X;cases b;simp only[go_sem];exact⟨j,_,_,[0,1,2],X,rfl,ak2 3,by simp only[go_sem,Nat.reduceBEq,Nat.reduceLeDiff,Nat.reduceAdd,true_and,and_true];decide⟩;simp only[go_sem];exact⟨j,_,_,[0,1,2],X,rfl,ak2 3,by simp only[go_sem,Nat.reduceBEq,Nat.reduceLeDiff,Nat.reduceAdd,true_and,and_true];decide⟩
def hUp (K:Int->ah->Option aoJ):List Ob->Option aoJ
 | [.cells [.v (.int .i64 n)],.cells c] =>pDo (λd _=>K n d) [] (wb .al c)
 |_=>none
@[go_sem] def akU:= @hUp.eq_1
theorem Q8 {K:Int->ah->Option aoJ}{h:List Ob}{c:aoJ}(E:hUp K h=some c):∃ n d,h=[.cells [.v (.int .i64 n)],.cells (cellsOf .al d)]/\K n d=some c:=by
 unfold hUp at E;split at E
 rename_i n cs;obtain⟨x,r,O,V⟩:=UU (t:=.al) (kd:=λd _=>K n d) (l:=[.ep cs 0]) E;simp at O;obtain⟨rfl,rfl⟩:=O;exact⟨n,x,rfl,V⟩;cases E
abbrev YH:SV:=.fn 234 [] [.ptr 0 0,.ptr 1 0]
noncomputable def iR:List SV->List Ob->Option aoJ:=λl h=>hUp (λn d=>pQ (.v (.slice none 0 0)) (pQ YH (pE (fK (0<=n/\n_ d n/\(ez d n).length*8<=d8) (.os 2) [.dead,.dead,.row .int (ez d n)]))) l) h
noncomputable def pF:List SV->List Ob->Option aoJ:=λl h=>hUp (λn d=>pQ YH (pE (fK (0<=n/\n_ d n/\(ez d n).length*8<=d8) (.os 2) [.dead,.dead,.row .int (ez d n)])) l) h
def CR:List Int->List Ob
 | [] =>[.dead,.dead,.cells [.v (.slice none 0 0)]]|x::l=>[.dead,.dead,.cells [.os 3],.row .int (x::l)]
def CS (x:Int)(l:List Int):Empty⊕List Int:=.inr (l++[x])
theorem IV:∀ (l m:List Int),cB CS l m=.inr (m++l)
 | [],m=>by simp[cB]
 |x::l,m=>by simp only[cB,CS];rw[IV l];simp
theorem MT {B:Nat}:∀ (l m:List Int),m.length+l.length<=B->okL CS (λ_ s=>s.length+1<=B) l m
 | [],_,_=>trivial
 |x::l,m,h=>⟨by simp at h;omega,λs' E=>by
  simp only[CS,alP]at E;subst E;exact MT l _ (by simp at h |-;omega)⟩
theorem acF {d:ah}{n:Int}(hn:0<=n):∃ x l,ez d n=x::l:=⟨_,_,by unfold ez;rw[upL,if_pos hn]⟩
theorem zq1 {p:Prop}(h:p:=by simp only[go_sem,e6]):p:=h
theorem yl:aoH Tryz.prog 233 iR:=by
 have hG:aot Tryz.prog (mkG [] []):=oA W2 W2;refine oz mixed aJ hG (fn:=Tryz.f233) (c:=ae Tryz.f233) kr kr kr kr λl o con h E=>?_;unfold iR at h;obtain⟨n,d,rfl,h0⟩:=Q8 h;obtain⟨l0,rfl,h1⟩:=Fe h0;obtain⟨l1,rfl,h2⟩:=Fe h1;obtain⟨rfl,rfl⟩:=w8 h2;obtain⟨hn,O,hB⟩:=E;refine⟨nbl rfl,λid st=>bif Nat.beq id 0 then some (LC (ρ:=Empty) (σ:=List Int) (lk 2 st.t=.ptr 2 0/\lk 6 st.t=YH/\st.h=[.cells [.v (.int .i64 n)],.cells (cellsOf .al d),.cells [.v (.slice none 0 0)]]) (cB CS (ez d n) []) (·.elim) (·.elim) (λs=>⟨[(2,.ptr 2 0)],CR s⟩))else none,?_,?_⟩
 ·unfold ae Tryz.f233;simp only[ak,true_and,and_true];refine sb mixed aJ hG (by decide) (by decide) kr kr λst lc W E=>?_;simp only[go_sem,Nat.reduceBEq,ak3]at W;subst W;obtain⟨t,h⟩:=st;dsimp only[LC]at E;obtain⟨e2,e6,rfl⟩:=E;refine⟨234,[.ptr 0 0,.ptr 1 0],Int,_,_,ez d n,MS,CS,λ_ s=>s.length+1<=(ez d n).length,_,[],_,_,_,[(2,.ptr 2 0)],CR,(·.elim),[0,1,2],?_,rfl,MT _ _ (by simp),nbl rfl,?_,?_,λx s hq=>⟨rfl,L0,λl=>ag _,λl=>ag _,?_⟩,λs=>?_,λy=>y.elim⟩;exact zq1
  ·simp only[go_sem,sH,jY,alp,ame,ak_,ali,alM,CR,e2,Nat.reduceBEq,Nat.reduceLeDiff,Nat.reduceAdd];all_goals (first|done|decide|(repeat' (first|refine And.intro ?_ ?_|rfl|decide)))
  exact ahe d n O;have V:(s++[x]).length*8<=d8:=by simp;omega
  cases s with
  |nil=>
   simp only[go_sem,psT,MS,CR,CS,alr,ak_,Nat.reduceBEq,Nat.reduceLeDiff,Nat.reduceAdd,Nat.reduceSub,Nat.reduceMul];exact⟨by simpa using V,λ_=>fk (jl [0,1,2,4])⟩
  |cons a m=>
   simp only[go_sem,psT,MS,CR,CS,alr,ak_,Nat.reduceBEq,Nat.reduceLeDiff,Nat.reduceAdd,Nat.reduceSub,Nat.reduceMul];exact⟨by simpa using V,λ_=>fk (jl [0,1,2,5])⟩
  cases s with
  |nil=>simp only[CR];exact fk (jl [0,1,2])|cons a m=>simp only[CR];exact fk (jl [0,1,2,3])
 ·unfold ae Tryz.f233;obtain⟨x,l,X⟩:=acF (d:=d) hn;simp only[go_sem,Nat.reduceBEq,Nat.reduceLeDiff,Nat.reduceAdd,Nat.reduceSub,Nat.reduceMul,IV,X,CR,ak_];refine⟨λy=>y.elim,λs Y=>?_⟩;cases Y;simp only[go_sem,Nat.reduceBEq,Nat.reduceLeDiff,Nat.reduceAdd,Nat.reduceSub,Nat.reduceMul];refine⟨(),_,_,[0,1,3],trivial,rfl,?_⟩;simp only[go_sem,X,Nat.reduceBEq,Nat.reduceLeDiff,Nat.reduceAdd,true_and,and_true];all_goals (first|done|decide|(repeat' (first|refine And.intro ?_ ?_|rfl|decide)))
theorem Aq:aoH Tryz.prog 159 pF:=by
 have hG:aot Tryz.prog (mkG [] [(233,iR)]):=oA W2 (cgc yl W2);refine oz mixed aJ hG (fn:=Tryz.f159) (c:=ae Tryz.f159) kr kr kr kr λl o O h E=>?_;unfold pF at h;obtain⟨n,d,rfl,V⟩:=Q8 h;obtain⟨l1,rfl,h2⟩:=Fe V;obtain⟨rfl,rfl⟩:=w8 h2;refine⟨nbl rfl,L0,ag _,?_⟩;unfold ae Tryz.f159;simp only[go_sem,iR,YH,Nat.reduceBEq,Nat.reduceLeDiff,Nat.reduceAdd,Nat.reduceSub,Nat.reduceMul];refine⟨E,(),_,_,[0,1,2],trivial,rfl,?_⟩;simp only[go_sem,Nat.reduceBEq,Nat.reduceLeDiff,Nat.reduceAdd,true_and,and_true];all_goals (first|done|decide|(repeat' (first|refine And.intro ?_ ?_|rfl|decide)))
attribute [go_sem] iR pF
end Go.Sx
end
section
namespace Go.Sx
open Go.RowKit
def pXM {α:Type 1}(t t2:Tag)(k:List (t.T×t2.T)->List SV->Option α):List SV->Option α
 | .ep [s] 0::r=>pM t t2 k (s::r)|_=>none
@[go_sem] def ahf:= @pXM.eq_1
theorem Kn {α:Type 1}{G:List SV->α->Prop}{t t2:Tag}{k:List (t.T×t2.T)->List SV->Option α}(h:∀ n l c,k n l=some c->G (.ep [.rm t t2 n] 0::l) c):∀ l c,pXM t t2 k l=some c->G l c:=λl c hc=>by
 unfold pXM at hc;split at hc
 obtain⟨x,r,e,h1⟩:=UV hc;simp only[amB]at e;obtain⟨rfl,rfl⟩:=e;exact h x _ c h1;cases hc
section
universe u
variable {α:Type u}{G:List SV->α->Prop}
def pLS (k:List SV->Option (List SV->Option α)):List SV->Option α
 | .ls 1 l::r=>apO (k l) r|_=>none
@[go_sem] def akV:= @pLS.eq_1
end
open Classical in
noncomputable def jf {τ:Type}(A:τ->List SV)(H:τ->List Ob)(K:τ->aoJ):List SV->List Ob->Option aoJ:=λl h=>if e:∃ x,l=A x/\h=H x then some (K e.choose)else none
def VL (x:bn):(⟨x.no,x.kind,x.right,x.since,x.to,x.parts,x.of_,x.at_,x.known⟩:bn)=x:=rfl
def Ko (d:ah):(⟨d.name,d.hours,⟨d.aoE.cap,d.aoE.start⟩,d.reaches,d.zs,d.aoK,d.ai,d.aoF,d.apf⟩:ah)=d:=rfl
theorem SH {k:Tag}{x y:k.T}:cellsOf k x=cellsOf k y↔x=y:=⟨λh=>by
 have h1:=Bo x;rw[h,Bo y]at h1;exact(Option.some.inj h1).symm,λh=>by rw[h]⟩
theorem fL {τ:Type}{A:τ->List SV}{H:τ->List Ob}{K:τ->aoJ}{x:τ}(E:∀ x y,A x=A y->H x=H y->x=y:=by
 intro x y h1 h2;simp only[amB,SV.agg.injEq,SV.ep.injEq,SV.v.injEq,Value.int.injEq,Value.bool.injEq,Value.string.injEq,SV.fn.injEq,SV.rs.injEq,SV.rm.injEq,Ob.row.injEq,Ob.mp.injEq,Ob.cells.injEq,Ob.aoV.injEq,heq_eq_eq,SH,true_and,and_true]at h1 h2;first|exact h2|exact h1|(simp_all [Prod.ext_iff];done)):jf A H K (A x) (H x)=some (K x):=by
 have e:∃ y,A x=A y/\H x=H y:=⟨x,rfl,rfl⟩;unfold jf;rw[dif_pos e];have:=E _ _ e.choose_spec.1 e.choose_spec.2;rw[<-this]
theorem dV {τ:Type}{A:τ->List SV}{H:τ->List Ob}{K:τ->aoJ}{l:List SV}{h:List Ob}{c:aoJ}(E:jf A H K l h=some c):∃ x,l=A x/\h=H x/\c=K x:=by
 unfold jf at E;split at E
 rename_i e;simp only[ak3]at E;exact⟨e.choose,e.choose_spec.1,e.choose_spec.2,E.symm⟩;cases E
section
variable {P:Program}{ts:Tis}{G:Cons}{N:Nat}
theorem zl (hm:P.follows .mixedOrders=true)(hts:ts.ok P)(hG:aot P G){id:Nat}{g:Operand}{X:Array Tmp}{assign body:Code}{C:St->Option apc}
  (hpn:X.toList.Nodup) (Y:∀ p∈X.toList,p<N) (hca:c7 N assign=true) (hcb:c7 N body=true)
  (h:∀ E V,C E=some V->V.pre->∃ st,aph E st/\∃ (f:FuncId) (caps:List SV) (τ ρ σ:Type) (l:List τ) (mk:τ->List SV) (step:τ->σ->ρ⊕σ) (p:τ->σ->Prop) (pre:Prop) (s0:σ) (exE:ρ->Ex) (aoh:ρ->St) (aoD:σ->St) (T:List (Nat×SV)) (H:σ->List Ob) (Hy:ρ->List Ob) (js:List Nat),
   raw st.t g=.fn f [] caps/\V=LC pre (cB step l s0) exE aoh aoD/\okL step p l s0/\st.h.length<=(H s0).length/\Sub js st.h.length ⟨st.t,sH (jY st caps) st.h⟩ ⟨T,H s0⟩/\
   Ak P f (λy=>y::caps.map (ren (Pm (jY st caps)) 3)) (MA (jY st caps) st.h) (l.map mk)/\
   (∀ x s,p x s->(mk x).length=X.size/\∃ L,(∀ l,ak P (some l) N L assign)/\(∀ l,ak P (some l) N L body)/\exec ts G L assign ⟨psT X.toList (mk x)++T,H s⟩ (λe st1=>e=.normal/\exec ts G L body st1 (rgQ step exE T H Hy st.h.length id x s)))/\
   (∀ s,oB (aoD s) st.h.length ⟨T,H s⟩)/\∀ y,oB (aoh y) st.h.length ⟨T,Hy y⟩):k9 P none N id (.rangeFunc g X assign body) C:=by
 intro nd F w0 E V hC O own a w hr;obtain⟨st,hN,W⟩:=h E V hC O;obtain⟨ee,hr'⟩:=hN.rel hr;refine sb hm hts hG hpn Y hca hcb (C:=λs=>@ite _ (s=st) (Classical.propDecidable _) (some V) none) (λs l e _=>?_) nd F w0 st V (if_pos rfl) O ee a w hr';split at e
 rename_i e1;subst e1;cases e;exact W;cases e
end
def acG (n0 id:Nat):Ob->SV
 | .row k l=>bif Nat.ble n0 id then .rs k l else .any|_=>.any
def isV:SV->Bool
 | .v _=>true|_=>false
def SI (n0:Nat)(h:List Ob):SV->SV
 | .v x=>.v x| .rs k l=>.rs k l| .agg l=>bif l.all isV then .agg l else .any| .os id=>acG n0 id (ap h id)|_=>.any
def Pp (n0:Nat)(h:List Ob):SV->SV
 | .tup l=>.tup (l.map (SI n0 h))|s=>SI n0 h s
section
variable {F:Nat->Prop}{own:Own}{w:World}{n0:Nat}{h:List Ob}
@[go_sem] def ahg:= @Pp.eq_1
def ajE {id:Nat}:Pp n0 h (.os id)=acG n0 id (ap h id):=(rfl)
def akW {x:Value}:Pp n0 h (.v x)=.v x:=(rfl)
def ajF {k:Tag}{l:List k.T}:Pp n0 h (.rs k l)=.rs k l:=(rfl)
def ahh {l:List SV}:Pp n0 h (.agg l)=bif l.all isV then .agg l else .any:=(rfl)
attribute[go_sem]ajE akW ajF ahh
@[go_sem] def akX:= @SI.eq_1
@[go_sem] def ajG:= @SI.eq_2
@[go_sem] def ahi:= @SI.eq_3
@[go_sem] def ajH:= @SI.eq_4
@[go_sem] def ahj:= @acG.eq_1
@[go_sem] def arW:= @isV.eq_1
end
def acH (pks:List Pk)(n0:Nat)(S:SV)(H:List Ob)(h:List Ob):Option SV->Prop
 |some s=>S=yk pks (Pp n0 h s)/\oB ⟨[],H⟩ n0 ⟨[],h⟩|none=>False
def aaj (pks:List Pk)(n0:Nat)(rs:List ResultVar)(ts:Tis)(S:SV)(H:List Ob):Ex->St->Prop
 | .exit _,_=>False| .normal,st=>acH pks n0 S H st.h (tA (ri ts st rs))| .ret,st=>acH pks n0 S H st.h (tA (ri ts st rs))| .pan _,_=>False
section
variable {P:Program}{ts:Tis}{G:Cons}{n0:Nat}{S s:SV}{H h:List Ob}{rs:List ResultVar}{st:St}{pks:List Pk}
@[go_sem] def afi:= @acH.eq_1
@[go_sem] def YI:= @aaj.eq_2
@[go_sem] def afj:= @aaj.eq_3
end
def ahk (h:List Ob):Option Con->Option aoJ
 |some (.det p s) =>some (fK p (Pp 0 (a6 3 s) (jp 3 0 s)) (h.map λ_=>.dead))
 |_=>none
def arO (C:List SV->Option Con)(l:List SV)(h:List Ob):Option aoJ:=ahk h (C (l.map (gi h 6)))
@[go_sem] def ajI:= @arO.eq_1
@[go_sem] def ahl:= @ahk.eq_1
section
variable {P:Program}{F:Nat->Prop}{own:Own}{w w':World}
end
end Go.Sx
end
section
namespace Go.Sx
def ahm {te:TI}{nx:Nat}{h:List Ob}{s:SV}:mv te nx h [.any,s]=.bad:=(rfl)
def akY {t:Tag}{f:List t.T->List SV->Option Con}{l:List SV}:pR t f (.any::l)=none:=(rfl)
attribute[go_sem]ahm akY
end Go.Sx
end
section
namespace Go.Sx
universe u
section
variable {α:Type u}
def pV (k:Int->List SV->Option α):List SV->Option α
 | .v (.int .u8 n)::r=>k n r|_=>none
@[go_sem] def ajJ:= @pV.eq_1
def pW (k:Int->List SV->Option α):List SV->Option α
 | .v (.int .u16 n)::r=>k n r|_=>none
@[go_sem] def ajK:= @pW.eq_1
end
end Go.Sx
end
section
namespace Go.Sx
open Go.RowKit
def orC {α:Type 1}:Option α->Option α->Option α
 |some x,_=>some x|none,y=>y
@[go_sem] def ahn:= @orC.eq_1
@[go_sem] def aho:= @orC.eq_2
theorem xR {α:Type 1}{a b:Option α}{c:α}(h:orC a b=some c):a=some c\/b=some c:=by
 cases a with
 |none=>exact .inr h|some x=>exact .inl h
variable {P:Program}{f:FuncId}
theorem aoH.or{C D:List SV->List Ob->Option aoJ}(h1:aoH P f C)(h2:aoH P f D):aoH P f (λl h=>orC (C l h) (D l h)):=
 ⟨λl h c hc=>by rcases xR hc with e|e;exact h1.enter l h c e;exact h2.enter l h c e,
  λl h c hc=>by rcases xR hc with e|e;exact h1.calls l h c e;exact h2.calls l h c e⟩
theorem P1.or{C D:List SV->Option Con}(h1:P1 P f C)(h2:P1 P f D):P1 P f (λl=>orC (C l) (D l)):=
 ⟨λl c hc=>by rcases xR hc with e|e;exact h1.enter l c e;exact h2.enter l c e,
  λl c hc=>by rcases xR hc with e|e;exact h1.calls l c e;exact h2.calls l c e⟩
end Go.Sx
end
section
namespace Go.Sx
def acI {α:Type}:Result α->World
 | .ok _ w=>w| .halt _ w=>w
theorem Pq {α:Type}:∀ (a:Ask α) (w:World),w.drawn<=(w.ask a).2.drawn
 | .done a,w=>ak2 _
 | .ask what range k,w=>by
  unfold World.ask;dsimp only;split
  exact Pq _ w;exact ald (aoq _) (Pq _ { w with drawn:=w.drawn+1})
theorem acJ (w:World)(c:Sys):w.drawn<=(w.sys c).2.drawn:=by
 unfold World.sys;have:=Pq (Kernel.perform c w.os) w;grind
variable {p:Program}{w:World}{v:Value}
theorem MU{w':World}{a:Addr}{b:Bool}{l:List Addr}(h:w.farStore p a v b=.ok (w',l)):w'.drawn=w.drawn:=by
 unfold World.farStore at h;split at h
 ·split at h
  ·rename_i r hr;cases h;unfold World.viewStore at hr;simp only[bind,Except.bind,pure,Except.pure]at hr
   repeat' split at hr
   all_goals (first|(cases hr;done) |skip)
   all_goals (cases hr;rfl)
  cases h
 cases h
variable {α:Type}
theorem Kp(p:Program):∀ (s:Sem α) (w:World),w.drawn<=(acI (s.run p w)).drawn:=by
 intro s;induction s with
 |pure a=>intro w;exact ak2 _
 |load m a k E=>
  intro w;unfold Sem.run;split
  exact E _ w;split
  exact E _ w;exact ak2 _
 |store m a v k E=>
  intro w;cases v
  case agg=>exact ak2 _
  case tuple=>exact ak2 _
  all_goals
   simp only[Sem.run];split
   split
   exact ak2 _;exact E (w.setCell a _);split
   rename_i h;rw[<-MU h];exact E _;exact ak2 _
 |new o k E=>intro w;exact E w.heap.size { w with heap:=w.heap.push o}
 |shape r k E=>intro w;exact E _ _
 |freeze a n k E=>
  intro w;have:(w.freeze a n).drawn=w.drawn:=by grind [World.freeze]
  rw[<-this];exact E _
 |frozen a k E=>intro w;exact E _ _
 |getObj r k E=>
  intro w;unfold Sem.run;split
  exact ak2 _;exact E _ _;exact ak2 _
 |setObj r o k E=>
  intro w;unfold Sem.run;split
  exact ak2 _;grind
  exact ak2 _
 |choose q k E=>
  grind [Sem.run]
 |sys c k E=>intro w;exact ald (acJ w c) (E _ _)|program k E=>intro w;exact E _ _|mark m k E=>intro w;exact E _|halt h=>intro w;exact ak2 _
theorem VM(p:Program):∀ (s:Sem α) (w:World) (es:Array Event),(s.runT p w es).1=s.run p w:=by
 simp_all
theorem lK{s:Sem α}{w':World}{a:α}(h:s.run p w=.ok a w'):w.drawn<=w'.drawn:=by have:=Kp p s w;rw[h]at this;exact this
theorem VN{s:Sem α}{w':World}{a:Halt}(h:s.run p w=.halt a w'):w.drawn<=w'.drawn:=by have:=Kp p s w;rw[h]at this;exact this
theorem rQ{s:Sem α}{es E:Array Event}{r:Result α}(h:s.runT p w es=(r,E)):w.drawn<=(acI r).drawn:=by
 have:=VM p s w es;rw[h]at this;have h2:=Kp p s w;grind
def gLe (w:World):GStep->Prop
 | .ended .. =>True| .go _ w' _| .comm _ _ _ _ w' _| .spawn _ _ w' _| .count _ w' _| .timer _ _ w' _| .alone _ _ w' _| .newcoro _ _ _ w' _| .coroswitch _ _ _ w' _| .collect _ w' _| .watch _ w' _=>w.drawn<=w'.drawn
theorem gLe.after{es:Array Event}{s:GStep}(h:gLe w s):gLe w (s.after es):=by cases s <;>exact h
theorem gLe.trans{w':World}{s:GStep}(h1:w.drawn<=w'.drawn)(h:gLe w' s):gLe w s:=by cases s <;>first|trivial|exact ald h1 h
theorem DZ{c:Prop}[Decidable c]{a b:GStep}(h1:gLe w a)(h2:gLe w b):gLe w (if c then a else b):=by grind
def tV (fr:Frame)(m:String)(w:World):gLe w (endThrow fr m w):=ak2 _
theorem xb (p:Program)(fr:Frame)(v:Value)(w:World):gLe w (endPrinting p fr v w):=by
 unfold endPrinting;dsimp only;split
 exact tV _ _ _;trivial
theorem CT (p:Program)(fr:Frame)(E:List Frame)(O:Option Dying)(m:String)(w:World):gLe w (endFatal p fr E O m w):=by
 unfold endFatal
 extract_lets
 split
 rename_i h;exact lK h;trivial;trivial
theorem Pr (p:Program)(fr:Frame)(d:Dying)(f:Fatal)(w:World):gLe w (writeOn p fr d f w):=by
 unfold writeOn
 extract_lets
 split
 trivial
 extract_lets
 generalize h:Sem.runT _ _ _ _=rr;obtain⟨r,es⟩:=rr;have h:=rQ h;split
 rename_i e;cases e;exact h;rename_i e;cases e;exact h;trivial;trivial
theorem Ps (w w':World)(fd:Nat)(t:ByteArray)(o:Outcome):gLe w (endWith w' fd t o):=by
 unfold endWith
 extract_lets
 split
 split <;>trivial
 trivial;trivial
theorem acK (p:Program)(fr:Frame)(d:Dying)(w:World):gLe w (die p fr d w):=by
 unfold die;split
 exact Pr _ _ _ _ _
 ·split
  split
  exact ak2 _;exact Ps _ _ _ _ _
  ·extract_lets
   split
   exact ak2 _;split
   rename_i h;exact lK h;trivial
   ·split
    rename_i h;have h:=rQ h;refine gLe.after ?_;split
    all_goals first|exact h|trivial|exact gLe.trans h (xb _ _ _ _)
   trivial
theorem xc (p:Program)(V:Bool)(fr:Frame)(E:List Frame)(O:Option Dying)(v:Value)(w:World):gLe w (doReturn p V fr E O v w):=by
 unfold doReturn;split
 ·split
  all_goals exact ak2 _
 split
 exact ak2 _;trivial;split
 exact ak2 _;split
 exact ak2 _;trivial
theorem Di (p:Program)(fr:Frame)(E:List Frame)(O:Option Dying)(d:Deferred)(w:World):gLe w (callDeferred p fr E O d w):=by
 unfold callDeferred;refine DZ trivial ?_;rcases h:(invoke d.target d.args).runT p w #[]with⟨r,es⟩;have h:=rQ h;dsimp only;refine gLe.after ?_;split
 all_goals first|exact h|trivial|exact gLe.trans h (CT _ _ _ _ _ _) |exact gLe.trans h (tV _ _ _) |skip
 split <;>exact h
theorem SJ (p:Program)(V:Bool)(fr:Frame)(E:List Frame)(O:Option Dying)(w:World):gLe w (unwind p V fr E O w):=by
 unfold unwind;split
 split
 rename_i h;have h:=rQ h;refine gLe.after ?_;split
 exact h;trivial;exact Di _ _ _ _ _ _;split
 trivial;split
 trivial;split
 exact ak2 _;split
 split
 exact ak2 _;split
 rename_i h;exact lK h;trivial;trivial;split
 exact xb _ _ _ _;trivial;split
 exact xc _ _ _ _ _ _ _;split
 rename_i h;have h:=rQ h;refine gLe.after ?_;split
 exact gLe.trans h (xc _ _ _ _ _ _ _);trivial;trivial
theorem VO (p:Program)(fr:Frame)(E:List Frame)(O:Option Dying)(g:Nat)(w:World):gLe w (early p fr E O g w):=by
 unfold early
 extract_lets refuse notYet there
 have hn:∀ w0:World,w.drawn<=w0.drawn->gLe w (notYet w0):=λw0 V=>by
  show gLe w (match w0.heap[g]? with|some (.pending c elem) =>_|_=>_);split
  exact V;trivial
 split
 grind
 split
 trivial
 extract_lets there
 have W:∀ w0:World,w.drawn<=w0.drawn->gLe w (there w0):=λw0 V=>V;split
 grind
 split
 grind
 split
 trivial;grind
 trivial;grind
 split
 grind
 split
 grind
 split
 rename_i h;exact hn _ (lK h);rename_i h;exact W _ (lK h);trivial
theorem xd (p:Program)(E:Bool)(fr:Frame)(O:List Frame)(V:Option Dying)(s:Sem Next)(w:World):gLe w (Go.stepG.apply p E fr O V s w):=by
 unfold Go.stepG.apply
 extract_lets go kind
 have hr:∃ r es,(if E=true then s.runT p w #[]else(s.run p w,#[]))=(r,es)/\w.drawn<=(acI r).drawn:=by
  split
  rcases h:s.runT p w #[]with⟨r,es⟩;exact⟨r,es,rfl,rQ h⟩;exact⟨_,_,rfl,Kp p s w⟩
 obtain⟨r,es,X,h⟩:=hr;rw[X];dsimp only;refine gLe.after ?_;have W:∀ fr w0,w.drawn<=w0.drawn->gLe w (go fr w0):=λfr w0 Y=>Y;split
 all_goals first|exact h|trivial|exact W _ _ h|exact gLe.trans h (CT _ _ _ _ _ _) |exact gLe.trans h (tV _ _ _) |exact gLe.trans h (VO _ _ _ _ _ _) |skip
 all_goals first|(refine DZ (gLe.trans h (tV _ _ _)) ?_;exact h) |(split <;>first|exact h|trivial|exact W _ _ h)
theorem YJ (p:Program)(O:Bool)(fr:Frame)(E:List Frame)(V:Option Dying)(w:World):gLe w (Go.stepG.oper p O fr E V w):=by
 unfold Go.stepG.oper;split
 trivial;split
 exact xd _ _ _ _ _ _ _;exact xd _ _ _ _ _ _ _
theorem Q9{o:Option α}{a:GStep}{f:α->GStep}(h1:gLe w a)(h2:∀ x,gLe w (f x)):gLe w (o.elim a f):=by cases o;exact h1;exact h2 _
theorem YK (p:Program)(main W:Bool)(fr:Frame)(V:List Frame)(X:Option Dying)(w:World):gLe w (Go.stepG.exec p main W fr V X w):=by
 unfold Go.stepG.exec
 extract_lets go to lost leave
 have Y:∀ fr w0,w.drawn<=w0.drawn->gLe w (go fr w0):=λfr w0 h0=>h0;have hto:∀ k,gLe w (to k):=λk=>ak2 _;have O:∀ m,gLe w (lost m):=λ_=>trivial;have E:∀ j,gLe w (leave j):=λj=>by
  show gLe w (match fr.roundOf with|none=>_|some l=>_);split
  grind
  rcases h:(Instr.endRound _ j).runT p w #[]with⟨r,es⟩;have h:=rQ h;dsimp only;refine gLe.after ?_;split
  exact gLe.trans h (xc _ _ _ _ _ _ _);trivial
 have hgo1:∀ fr,gLe w (go fr w):=λfr=>ak2 _
 clear_value to lost leave
 split
 all_goals first|exact E _|exact hto _|exact O _|trivial|exact Q9 (E _) hto|exact xd _ _ _ _ _ _ _|exact Q9 (O _) (λ_=>xd _ _ _ _ _ _ _) |skip
 grind
 rcases h:(Instr.enterLoop fr.fn fr.tmps _ _ _ fr.roundOf).runT p w #[]with⟨r,es⟩;have h:=rQ h;dsimp only;refine gLe.after ?_;split
 exact gLe.trans h (xd _ _ _ _ _ _ _);trivial;rcases h:(Instr.endLoop _).runT p w #[]with⟨r,es⟩;have h:=rQ h;dsimp only;refine gLe.after ?_;split
 exact Y _ _ h;exact Y _ _ h;trivial;refine DZ (hto _) ?_;split
 rename_i h;exact Y _ _ (lK h);trivial;exact DZ (YJ _ _ _ _ _ _) (hgo1 _)
theorem VP (p:Program)(O:Bool)(g:Goroutine)(w:World)(E:Bool):gLe w (Go.stepG p O g w E):=by
 unfold Go.stepG;obtain⟨fr,V,st,W,off⟩:=g;dsimp only;split
 exact acK _ _ _ _;exact YK _ _ _ _ _ _ _;exact SJ _ _ _ _ _ _
def sLe (w:World):Stepped->Prop
 | .next m=>w.drawn<=m.world.drawn| .ended .. =>True
theorem sLe.trans{w':World}{s:Stepped}(h1:w.drawn<=w'.drawn)(h:sLe w' s):sLe w s:=by cases s <;>first|trivial|exact ald h1 h
theorem Q_{c:Prop}[Decidable c]{a b:Stepped}(h1:sLe w a)(h2:sLe w b):sLe w (if c then a else b):=by grind
theorem Ra (p:Program)(E:Array Goroutine)(rest:Rest)(w:World):sLe w (look p E rest w):=by
 unfold look;split
 extract_lets
 refine Q_ trivial ?_;split
 trivial
 extract_lets
 split
 rename_i h;have h:=lK h;exact h;trivial;trivial;trivial
theorem Kq{rest:Rest}{cases:Array CommCase}{w':World}(h:waitingAt rest cases w=some w'):w.drawn<=w'.drawn:=by
 grind [waitingAt]
theorem Fj (p:Program)(rest:Rest)(V:Array Goroutine)(i:Nat)(g:Goroutine)(cases:Array CommCase)(X:Bool)(O:CommShape)(w:World):sLe w (communicate p rest V i g cases X O w).1:=by
 unfold communicate
 extract_lets put illMade me other
 have E:∀ g V w0 ops,w.drawn<=w0.drawn->sLe w (put g V w0 ops).1:=λ_ _ _ _ h=>h;split
 trivial;split
 split
 split
 rename_i h;exact Kq h;trivial;simp_all;split
 trivial;rename_i h;have hw:=lK h;clear h
 extract_lets r
 split
 split
 rename_i h2;exact E _ _ _ _ (ald hw (VN h2));trivial;simp_all;simp_all
 extract_lets
 split
 simp_all;split
 rename_i h2;have W:=lK h2;exact E _ _ _ _ (ald hw W);trivial;simp_all;simp_all;trivial
theorem IW (m:Machine)(k:Nat)(t:Timer)(a b:Nat):m.world.drawn<=(retime m k t a b).2.world.drawn:=by
 grind [retime,drain]
variable {m:Machine}
theorem Pt{O:Machine}{op:TimerOp}(h:timerOp m op=.ok (v,O)):m.world.drawn<=O.world.drawn:=by
 have named:∀ (D:Nat) (V:Machine) E f,(∀ k t,D<=(f k t).2.world.drawn)->timerOp.named V E f=.ok (v,O)->D<=O.world.drawn:=λD V E f X h=>by
  grind [timerOp.named]
 unfold timerOp at h;split at h
 split at h
 cases h;exact ak2 _;grind
 exact named _ _ _ _ (λk t=>IW _ _ _ _ _) h;split at h
 rename_i m1 W;have h1:m.world.drawn<=m1.world.drawn:=by
  grind [timerOp.opened]
 exact ald h1 (named m1.world.drawn _ _ _ (λk t=>IW _ _ _ _ _) h);cases h;cases h;exact ak2 _
theorem VQ (p:Program)(m:Machine)(i:Nat)(O:Bool):sLe m.world (Go.runT p m i O).1:=by
 unfold Go.runT
 extract_lets rest world
 split
 extract_lets wake fn pos s ops done
 have E:gLe m.world s:=VP _ _ _ _ _;have hd:∀ r,(done r).1=r:=λr=>rfl
 clear_value s done
 split
 all_goals try rw[hd]
 trivial;split
 rename_i h;have:=Fj p rest ‹_› i ‹_› ‹_› ‹_› ‹_› ‹_›;rw[h]at this;exact sLe.trans E this;exact E;exact E;exact Q_ trivial E;exact E;exact sLe.trans E (Ra _ _ _ _);exact E;exact E;split
 exact E;split
 rename_i h;simp only[endThrow,dieOf]at h;cases h;exact E;trivial;trivial;split
 rename_i h;exact ald E (Pt h);exact E;trivial;trivial
theorem VR (p:Program)(m:Machine)(k:Nat):sLe m.world (serve p m k):=by
 unfold serve;split
 trivial;exact ak2 _
 extract_lets
 split
 trivial;exact ak2 _
def mLe (w:World):Move->Prop
 | .goroutine m _=>w.drawn<=m.world.drawn| .machine s _=>sLe w s
theorem mLe.trans{w':World}{s:Move}(h1:w.drawn<=w'.drawn)(h:mLe w' s):mLe w s:=by
 cases s;exact ald h1 h;exact sLe.trans h1 h
theorem Fk (p:Program)(m:Machine):mLe m.world (askOn p m):=by
 unfold askOn
 extract_lets mono rs ds pick
 have E:∀ O:Machine,m.world.drawn<=O.world.drawn->mLe m.world (pick O):=λO V=>by
  show mLe m.world (match (choose (.sched rs.length)).run p O.world with| .halt _ w=>_| .ok k world=>_);split
  trivial;rename_i h;have h1:=lK h;split
  exact ald V h1;split
  trivial;rename_i h2;have h2:=lK h2;exact ald V (ald h1 h2)
 clear_value pick rs ds
 split
 trivial;rename_i h;have hw:=lK h;clear h
 extract_lets m1
 split
 exact sLe.trans hw (VR p _ _);cases rs with
 |nil=>
  dsimp only;split
  exact hw;split
  exact hw;split <;>trivial
 |cons r rs=>
  dsimp only;split
  grind
  split
  trivial;rename_i h;have h2:=lK h;grind;rename_i h;have h2:=lK h;exact ald hw h2;rename_i h;have h2:=lK h;exact E _ (ald hw h2)
theorem MV (p:Program)(m:Machine):mLe m.world (ask p m):=by
 unfold ask;split
 split
 trivial;rename_i h;have hw:=lK h;have:=Ra p m.gs m.rest ‹World›;split
 rename_i E h2;rw[h2]at this;exact mLe.trans (ald hw this) (Fk p _);rename_i e h2;exact sLe.trans hw this;rename_i h;have hw:=lK h;exact mLe.trans hw (Fk p _);exact Fk p m
theorem YL (p:Program)(m:Machine):mLe m.world (move p m):=by
 unfold move;split
 split
 exact ak2 _;trivial;split
 split
 exact ak2 _;exact MV p _;exact MV p m
theorem YM (p:Program)(m:Machine):sLe m.world (step p m):=by
 unfold step stepT;have:=YL p m;split
 rename_i h;rw[h]at this;exact sLe.trans this (VQ p _ _ _);rename_i h;rw[h]at this;exact this
theorem MW{E:Machine}(h:Steps p m E):m.world.drawn<=E.world.drawn:=by
 obtain⟨n,hn⟩:=h;induction n generalizing m with
 |zero=>grind [runN]
 |succ n V=>
  simp only[runN]at hn;have:=YM p m;cases O:step p m with
  |next m1=>
   rw[O]at hn this;exact ald this (V hn)
  |ended o w=>grind
theorem MX{P:Program}{f:FuncId}{args:Array Value}{R:Ending->World->Prop}(h:Calls P f args w R):Calls P f args w λe w'=>R e w'/\(e≠ .outgrown->w.drawn<=w'.drawn):=by
 intro cs;obtain⟨e,w',fr,hr,hc,E,V⟩:=h cs;refine⟨e,w',fr,⟨hr,λO=>?_⟩,hc,E,V⟩;cases e with
 |returned v=>exact MW (p:=P) hc|panicked c=>exact MW (p:=P) hc|outgrown=>grind
end Go.Sx
end
section
namespace Go.Sx
open Go.Lib Go.Proofs Go.RowKit Go.Shelf Go.Sort
def aak:SV->Value
 | .v x=>x|_=>undef
def tB (k:Tag)(x:k.T):List Value:=(cellsOf k x).map aak
def xe (k:Tag):Prop:= ∀ (x:k.T) (s:SV),s∈cellsOf k x->∃ v,s=.v v/\v.oneCell'=true
def srt {α:Type}(cf:α->α->Int)(l:List α):List α:=l.mergeSort λx y=>!(ltOf cf y x)
def apart {α:Type}(cf:α->α->Int)(l:List α):Prop:= ∀ x∈l,∀ y∈l,ltOf cf x y=false->ltOf cf y x=false->x=y
theorem Pu {α:Type}[Inhabited α]{cf:α->α->Int}(W:SWO (ltOf cf)){l:List α}(h:apart cf l){O:Array α}(hp:PermIn 0 l.toArray.size l.toArray O)(hs:SortedIn (ltOf cf) 0 l.toArray.size O):O=(srt cf l).toArray:=by
 obtain⟨hsz,_,E⟩:=hp;have Y:O.extract 0 l.toArray.size=O:=by grind
 rw[Y,Array.extract_size]at E;have E:O.toList.Perm l:=by omega
 have:O.toList=srt cf l:=by
  refine al9 (le:=λx y=>(!ltOf cf y x)=true) ?_ ?_ ?_ (E.trans (al5 _ _).symm);intro a b ha hb h1 h2;simp only[alm]at h1 h2;exact h a (E.subset ha) b ((al5 _ _).subset hb) h2 h1;rw[aly];intro i j hi hj V;have:=hs i j (alB _) V (by grind);grind
  refine alW (λa b c h1 h2=>?_) (λa b=>?_) l;simp only[alm]at h1 h2 |-;exact W.ntrans c b a h2 h1;simp only[alx,alm];cases h1:ltOf cf b a with
  |false=>grind
  |true=>
   right;cases h2:ltOf cf a b with
   |false=>rfl
   |true=>
    have X:=W.trans a b a h2 h1;rw[W.irrefl]at X;cases X
 rw[<-this]
section
variable {P:Program}{ρ:Ren}{F:Nat->Prop}{own:Own}{w:World}{k:Tag}
variable {l:List k.T}{o:Nat}{cs:Array Value}
theorem BG(W:xe k)(h:ao1 F own w k l o cs){i j:Nat}(hi:i<l.length)(Y:j<aa k):cs[o+i*aa k+j]? =(tB k l[i])[j]?:=by
 have V:=alb hi;have E:j< (cellsOf k l[i]).length:=by grind [bK]
 have O:=alb E;obtain⟨u,h1,h2⟩:=h i _ V j _ O;obtain⟨v,X,_⟩:=W l[i] _ (alR E);rw[h1];unfold tB;rw[al1,O];rw[X]at h2 |-;rw[cT h2];rfl
theorem BH(V:xe k)(h:∀ i j,(hi:i<l.length)->j<aa k->cs[o+i*aa k+j]? =(tB k l[i])[j]?):ao1 F own w k l o cs:=by
 intro i x hi j s O;obtain⟨X,rfl⟩:=ak4.1 hi;have E:=(ak4.1 O).1;rw[bK]at E;have:=h i j X E;unfold tB at this;rw[al1,O]at this;obtain⟨v,W,_⟩:=V _ s (alf O);subst W;exact⟨v,this,.v v⟩
theorem YN {w w':World}(hb:Go.RowKit.Below w.heap.size w w')(hd:w.drawn<=w'.drawn):∃ q os,w'=grow (w.drewN q) os:=by
 refine⟨w'.drawn - w.drawn,w'.heap.extract w.heap.size w'.heap.size,?_⟩;obtain⟨h1,h2,h3,h4,h5⟩:=hb;obtain⟨heap,Y,drawn,os,O⟩:=w;obtain⟨W,X,V,os',E⟩:=w';simp only at h1 h2 h3 h4 h5 hd;subst h1;subst h2;subst h3;unfold grow World.drewN;simp only[World.mk.injEq,true_and,and_true];grind
end
open Classical in
noncomputable def iS (k:Tag)(g:FuncId)(caps:List SV)(cf:k.T->k.T->Int):List SV->List Ob->Option aoJ:=λl h=>
 MO k (λl0=>if l=[.os 0,.fn g [] caps]then some (fK (apart cf l0) (.tup []) [.row k (srt cf l0)])else none) h
@[go_sem] theorem na {k:Tag}{g:FuncId}{caps:List SV}{cf:k.T->k.T->Int}{l0:List k.T}:iS k g caps cf [.os 0,.fn g [] caps] [.row k l0]=some (fK (apart cf l0) (.tup []) [.row k (srt cf l0)]):=by
 simp[iS,MO]
section
variable {P:Program}{ρ:Ren}{k:Tag}
variable {w:World}{cs:Array Value}{ty:TypeId}
theorem VS{b:Nat}(E:w.heap[b]? =some (.cells cs ty (0,0)))(D:Array Value)(o:Nat):(putRow id w b o D).heap[b]? =some (.cells (putCells id o D cs) ty (0,0)):=by
 unfold putRow mapBlock;simp only[anZ,if_true,E];rfl
theorem MY{b c:Nat}(hc:c≠b)(D:Array Value)(o:Nat):(putRow id w b o D).heap[c]? =w.heap[c]?:=by
 unfold putRow mapBlock;grind
variable {o:Nat}
theorem Kr{D:Array Value}{t:Nat}(E:t<D.size)(O:o+t<cs.size):(putCells id o D cs)[o+t]? =D[t]?:=by
 unfold putCells;grind
variable {α:Type}{enc:α->List Value}{n:Nat}
theorem MZ[Inhabited α](hn:∀ x,(enc x).length=n){d:Array α}{i j:Nat}(hi:i<d.size)(E:j<n):(flatK enc n d)[i*n+j]? =(enc d[i]!)[j]?:=by
 have hlt:i*n+j<d.size*n:=by
  have:=alg n (show i+1<=d.size from hi);grind
 have h1:i*n+j< (flatK enc n d).size:=by simp_all
 rw[amA h1,<-getElem!_pos (flatK enc n d) _ h1,get_flatK enc n d _ hlt];grind [Nat.mul_comm,Nat.mul_add_div,Nat.div_eq_of_lt,Nat.mul_add_mod,Nat.mod_eq_of_lt]
variable {m:Nat}
theorem arI[Inhabited α]{b:Nat}(E:w.heap[b]? =some (.cells cs ty (0,0)))(d:Array α)(O:Array Obj):(sortWorldK enc n w b o m d O).heap[b]? =some (.cells (putCells id o (flatK enc n d) cs) ty (0,0)):=by
 have hlt:b<w.heap.size:=(amh.1 E).1;unfold sortWorldK grow;simp only;rw[alq (by unfold putRowK putRow mapBlock Sort.ahead;grind)];exact VS (w:=Sort.ahead w m) E _ _
theorem aal[Inhabited α]{b c:Nat}(hc:c<w.heap.size)(E:c≠b)(d:Array α)(O:Array Obj):(sortWorldK enc n w b o m d O).heap[c]? =w.heap[c]?:=by
 unfold sortWorldK grow;simp only;rw[alq (by unfold putRowK putRow mapBlock Sort.ahead;grind)];exact MY (w:=Sort.ahead w m) E _ _
theorem Ks[Inhabited α]{b:Nat}(d:Array α)(E:Array Obj):w.heap.size<=(sortWorldK enc n w b o m d E).heap.size:=by
 unfold sortWorldK grow putRowK putRow mapBlock Sort.ahead;simp
theorem qM (L:SlLaysF0.n6 P ρ)(aE:∀ w,(isAgg (ρ.t 24)).run P w=.ok true w)(zE:∀ w,(Go.sizeOf (ρ.t 24)).run P w=.ok (aa k) w)(hk:xe k)(h0:0<aa k){g:FuncId}{caps:List SV}{C:List SV->Option Con}(hC:P1 P g C){cf:k.T->k.T->Int}
  (hcf:∀ x y,C (.agg (cellsOf k x):: .agg (cellsOf k y)::caps)=some (.det True (.v (.int .i64 (cf x y))))) (hO:SWO (ltOf cf)) (hpf:∀ s∈caps,PF s) (arJ:∃ x y,C (.agg (cellsOf k x):: .agg (cellsOf k y)::caps)=some (.det True (.v (.int .i64 (cf x y))))):aoH P (ρ.f 6) (iS k g caps cf):=by
 haveI:Inhabited k.T:=⟨eG k⟩
 refine⟨λl h c hc args w=>L.f6.enters rfl args w,λl h c hc hp F own w vs O hvs=>?_⟩;unfold iS at hc;obtain⟨l0,hh,hK⟩:=MQ hc;clear hc;subst hh;by_cases hl:l=[.os 0,.fn g [] caps]
 rotate_left
 grind
 rw[if_pos hl]at hK;subst hl;cases hK;have hp:apart cf l0:=hp;obtain⟨hsz,apu⟩:=hvs;have r0:=apu 0 _ rfl;have r1:=apu 1 _ rfl;have Y:vs= #[vs.getD 0 undef,vs.getD 1 undef]:=by
  apply aon;omega;intro i h1 h2;simp only[ak5,alo]at hsz;match i,h1,h2 with
  |0,h1,_=>simp_all|1,h1,_=>simp_all|i+2,h1,_=>omega
 generalize vs.getD 0 undef=v0 at r0 Y;generalize vs.getD 1 undef=v1 at r1 Y;subst Y;obtain⟨hd,o0,rfl,_⟩:=iz r0;obtain⟨hd',o0',X⟩:=O.at (id:=0) (o:=.row k l0) rfl rfl;rw[o0]at o0';cases o0';have X:aoO F own w k l0 hd.v hd.bs:=X;cases r1 with
 | @fn _ _ _ us cs s1 s2 c1 c2=>
 have hus:us= #[]:=ane (by omega);subst hus;rcases X with⟨a,e1,rfl,e2⟩ | ⟨b,o,cap,cells,ty,e1,e2,e3,e4,e5,e6,e7⟩;rw[e1];refine(AnyF.slices_SortFunc_none L a 0 _ w).mono λe w' he=>?_;obtain⟨rfl,rfl⟩:=he;refine⟨(),own,trivial,⟨_,rfl,.tup rfl λj s E=>by simp at E⟩,?_,Fr.refl _,ak2 _⟩;simp_all [srt]
 ·have V:b∈hd.bs:=by rw[e2];simp
  have hbw:b<w.heap.size:=O.lt 0 hd b o0 V;have hkl:∀ x:k.T,(tB k x).length=aa k:=λx=>by unfold tB;rw[alY,bK]
  have hone:∀ x:k.T,∀ v∈tB k x,v.oneCell'=true:=λx v hv=>by
   unfold tB at hv;rw[al3]at hv;obtain⟨s,hs,rfl⟩:=hv;obtain⟨v,rfl,h1⟩:=hk x s hs;exact h1
  have eg:∀ args w,(callFunc g args).run P w=.ok (.enter g args) w:=λargs w=>by
   obtain⟨x,y,hxy⟩:=arJ;exact hC.enter _ _ hxy args w
  have hown:∀ id h2,own id=some h2->id=0:=λid h2 e=>by have:=O.dom id h2 e;grind
  have hH:HoldsK (tB k) (aa k) w b o l0.toArray:=by
   intro t ht;rw[size_flatK]at ht;simp only[amR]at ht;have hi:t / aa k<l0.length:=Nat.div_lt_of_lt_mul (by grind);have E:=am5 t h0;have ht':t=t / aa k*aa k+t % aa k:=(Nat.div_add_mod' t _).symm;have q1:=BG hk e7 hi E;have q2:=MZ (enc:=tB k) hkl (d:=l0.toArray) (i:=t / aa k) (j:=t % aa k) (by omega) E;grind [World.cell?,World.frozen?]
  have hcmp:CmpLays P g cs (tB k) (aa k) cf b o l0.toArray.size w:=by
   intro m os dk hdk x y;generalize hW:sortWorldK (tB k) (aa k) w b o m dk os=W;have hcar:aoZ F own w F own W:=⟨λ_ h2 e=>⟨h2,e,.refl _⟩,λc hc hn=>⟨hn,by
    rw[<-hW];exact aal hc (λe=>hn (.inr ⟨0,hd,o0,e▸V⟩)) _ _⟩⟩
   have henc:∀ z:k.T,Rel (λ_=>False) dF W (.agg (cellsOf k z)) (.agg (tB k z).toArray):=λz=>by
    refine .agg (by simp[tB]) λj s E=>?_;obtain⟨v,rfl,_⟩:=hk z s (alf E);have:(tB k z).toArray.getD j undef=v:=by
     unfold tB;rw[alw,anb,al1,E];rfl
    rw[this];exact .v v
   have hcall:=MX (hC.calls _ _ (hcf x y) trivial (λ_=>False) W (#[.agg (tB k x).toArray,.agg (tB k y).toArray]++cs) (λ_ h=>h.elim) ⟨by grind,λj s E=>by
    match j,E with
    |0,E=>
     cases E;simp_all [alq]
    |1,E=>
     cases E;simp_all [alq]
    |j+2,E=>
     have E:caps[j]? =some s:=E;have:=((c2 j s E).carry hcar).aoQ (hpf s (alf E)) (F':=λ_=>False) (ee:=dF) λ_ _ h=>by
      rcases h with h| ⟨_,_,h,_⟩;exact h;cases h
     simp_all [amq]⟩)
   refine hcall.mono λe w' hq=>?_;obtain⟨he,hdr⟩:=hq;rcases he with⟨s,u,ee,hs,rfl,hh,hb⟩ | ⟨z,hz,_⟩;simp only[dZ]at hs;subst hs;have:=hh.val;simp only[wY]at this;rw[cT this];exact⟨rfl,YN hb (hdr (by simp))⟩;exact hz.elim
  have hall:=AnyQ.slices_SortFunc L (aa k) aE zE (tB k) hkl hone cf hO g cs b o cap l0.toArray w eg hcmp hH hbw (by grind [aN]);rw[e1];refine hall.mono λe w' he=>?_;obtain⟨rfl,d',n,os,hpm,hst,rfl⟩:=he;have hd':=Pu hO hp hpm hst;subst hd';have hlS:(srt cf l0).length=l0.length:=an0 _;generalize srt cf l0=lS at hlS;have hsb:=arI (enc:=tB k) (n:=aa k) (o:=o) (m:=n) e3 lS.toArray os;refine⟨(),own,trivial,⟨_,rfl,.tup rfl λj s E=>by simp at E⟩,?_,?_,ak2 _⟩;refine⟨O.dom,λc hc=>ale (O.aoB c hc) (Ks _ _),O.apart,O.inj,λi h2 c e hc=>ale (O.lt i h2 c e hc) (Ks _ _),λi hi=>?_⟩;match i,hi with
  |0,_=>
   refine⟨hd,o0,?_⟩;show aoO F own _ k lS hd.v hd.bs;refine .inr ⟨b,o,cap,_,ty,by grind,e2,hsb,?_,by omega,by omega,BH hk λi j hi E=>?_⟩;unfold putCells;grind;have hlt:i*aa k+j< (flatK (tB k) (aa k) lS.toArray).size:=by
    rw[size_flatK];have:=alg (aa k) (show i+1<=lS.length from hi);grind
   have hle:o+(i*aa k+j) <cells.size:=by
    rw[size_flatK]at hlt;simp only[amR]at hlt;have:=alg (aa k) (show lS.length<=cap by omega);omega
   rw[amt,Kr hlt hle,MZ hkl (by omega) E];grind
  |i+1,hi=>rw[mW (by simp)]at hi;cases hi
  refine⟨λ_ h2 e=>⟨h2,e,.refl _⟩,(Fr.refl { w:=w,own:=own}).base,rfl,rfl,rfl,Ks _ _,λc hc=>?_⟩;exact aal hc.1 (λe=>hc.2 ⟨0,hd,o0,e▸V⟩) _ _
end
def wu (l:List Int):List Int:=l.mergeSort λx y=>decide (x<=y)
noncomputable def Pv:List SV->List Ob->Option aoJ:=jf (λx_:List Int=>[.os 0]) (λx_=>[.row .int x_]) (λx_=>fK True (.tup []) [.row .int (wu x_)])
@[go_sem]def afk (l_:List Int):Pv ([.os 0]) ([.row .int l_])=some (fK True (.tup []) [.row .int (wu l_)]):=fL (A:=λx_:List Int=>[.os 0]) (H:=λx_=>[.row .int x_]) (K:=λx_=>fK True (.tup []) [.row .int (wu x_)]) (x:=l_)
section
variable {P:Program}{ρ:Ren}
variable {enc:Int->Value}{w:World}{cs:Array Value}{ty:TypeId}
theorem aam{b:Nat}(E:w.heap[b]? =some (.cells cs ty (0,0)))(D:Array Int)(o:Nat):(putRow enc w b o D).heap[b]? =some (.cells (putCells enc o D cs) ty (0,0)):=by
 unfold putRow mapBlock;simp only[anZ,if_true,E];rfl
theorem VT{b c:Nat}(hc:c≠b)(D:Array Int)(o:Nat):(putRow enc w b o D).heap[c]? =w.heap[c]?:=by
 unfold putRow mapBlock;grind
variable {o:Nat}
theorem M0{D:Array Int}{t:Nat}(E:t<D.size)(O:o+t<cs.size):(putCells enc o D cs)[o+t]? =some (enc D[t]):=by
 unfold putCells;grind
variable {m:Nat}
theorem arp{b:Nat}(E:w.heap[b]? =some (.cells cs ty (0,0)))(d:Array Int)(O:Array Obj):(grow (putRow enc (Sort.ahead w m) b o d) O).heap[b]? =some (.cells (putCells enc o d cs) ty (0,0)):=by
 have hlt:b<w.heap.size:=(amh.1 E).1;unfold grow;simp only;rw[alq (by simp_all)];exact aam (w:=Sort.ahead w m) E _ _
theorem ahp{b c:Nat}(hc:c<w.heap.size)(E:c≠b)(d:Array Int)(O:Array Obj):(grow (putRow enc (Sort.ahead w m) b o d) O).heap[c]? =w.heap[c]?:=by
 unfold grow;simp only;rw[alq (by simp_all)];exact VT (w:=Sort.ahead w m) E _ _
theorem Kt{b:Nat}(d:Array Int)(E:Array Obj):w.heap.size<=(grow (putRow enc (Sort.ahead w m) b o d) E).heap.size:=by
 simp_all
theorem xS:xe .int:=by
 intro x s E;have:s=.v (.int .i64 x):=by grind [cellsOf]
 exact⟨_,this,rfl⟩
theorem Pw (L:SlLaysM.n5 P ρ):aoH P (ρ.f 5) Pv:=by
 refine⟨λl h c hc args w=>L.f5.enters rfl args w,λl h c hc hp F own w vs E hvs=>?_⟩;obtain⟨l0,rfl,rfl,rfl⟩:=dV hc;clear hc;obtain⟨hsz,apu⟩:=hvs;have r0:=apu 0 _ rfl;have W:vs= #[vs.getD 0 undef]:=by
  apply aon <;>simp_all
 generalize vs.getD 0 undef=v0 at r0 W;subst W;obtain⟨hd,o0,rfl,_⟩:=iz r0;obtain⟨hd',o0',V⟩:=E.at (id:=0) (o:=.row .int l0) rfl rfl;rw[o0]at o0';cases o0';have V:aoO F own w .int l0 hd.v hd.bs:=V;rcases V with⟨a,e1,rfl,e2⟩ | ⟨b,o,cap,cells,ty,e1,e2,e3,e4,e5,e6,e7⟩;rw[e1];refine(AnyM.slices_Sort_int_none L a 0 w).mono λe w' he=>?_;obtain⟨rfl,rfl⟩:=he;refine⟨(),own,trivial,⟨_,rfl,.tup rfl λj s hj=>by simp at hj⟩,?_,Fr.refl _,ak2 _⟩;simp_all [wu]
 ·have O:b∈hd.bs:=by rw[e2];simp
  have hbw:b<w.heap.size:=E.lt 0 hd b o0 O;have hH:Holds (Value.int .i64) w b o (l0:List Int).toArray:=by
   intro t ht;simp only[amR]at ht;have q1:=BG xS e7 (i:=t) (j:=0) ht (by decide);have e0:aa .int=1:=rfl;rw[e0,amT,al_]at q1;constructor
   unfold World.cell?;rw[e3];dsimp only;rw[q1,getElem!_pos _ t (by omega)];rfl;grind [World.frozen?]
  have X:l0.length<4611686018427387904:=by grind [aN]
  have Y:=AnyM.slices_Sort_int L b o cap l0 w hH hbw X;rw[e1];refine Y.mono λe w' he=>?_;obtain⟨rfl,n,os,rfl⟩:=he;have hlS:(wu l0).length=l0.length:=an0 _;show ∃ r ee,_/\J4 F w own 1 (.returned (.tuple #[])) ee (grow (putRow (Value.int .i64) (Sort.ahead w n) b o (wu l0).toArray) os) (.ret (.tup []) [.row .int (wu l0)]);generalize wu l0=lS at hlS;have hsb:=arp (enc:=Value.int .i64) (o:=o) (m:=n) e3 lS.toArray os;refine⟨(),own,trivial,⟨_,rfl,.tup rfl λj s hj=>by simp at hj⟩,?_,?_,ak2 _⟩;refine⟨E.dom,λc hc=>ale (E.aoB c hc) (Kt _ _),E.apart,E.inj,λi h2 c e hc=>ale (E.lt i h2 c e hc) (Kt _ _),λi hi=>?_⟩;match i,hi with
  |0,_=>
   refine⟨hd,o0,?_⟩;show aoO F own _ .int lS hd.v hd.bs;have hc1:aa .int=1:=rfl;refine .inr ⟨b,o,cap,_,ty,by grind,e2,hsb,?_,by omega,by omega,BH xS λi j hi hj=>?_⟩;unfold putCells;grind;rw[hc1]at hj |-;have hj0:j=0:=by omega
   subst hj0;rw[amT,al_,M0 (by omega) (by grind)];rfl
  |i+1,hi=>rw[mW (by simp)]at hi;cases hi
  refine⟨λ_ h2 e=>⟨h2,e,.refl _⟩,(Fr.refl { w:=w,own:=own}).base,rfl,rfl,rfl,Kt _ _,λc hc=>?_⟩;exact ahp hc.1 (λe=>hc.2 ⟨0,hd,o0,e▸O⟩) _ _
end
end Go.Sx
end
section
attribute [go_sem] Nat.reduceBEq Nat.reduceLeDiff Nat.reduceLT decide_true Nat.reduceAdd Nat.reduceSub Nat.reduceMul Nat.reduceDiv Int.reduceLE Int.reduceLT Int.reduceToNat Int.reduceNeg reduceCtorEq cond_true cond_false Bool.not_true Bool.not_false
end
section
namespace Go.Sx
open Go.Proofs Go.RowKit
variable {E:List (Nat×(List SV->Option Con))}{O:List (Nat×(List SV->List Ob->Option aoJ))}
def mG(h1:∀ x∈E,P1 Tryz.prog x.1 x.2)(h2:∀ x∈O,aoH Tryz.prog x.1 x.2):aot Tryz.prog (mkG E O):=oA h1 h2
def mGY{Y:List SV->Res->Option apR}(h1:∀ x∈E,P1 Tryz.prog x.1 x.2)(h2:∀ x∈O,aoH Tryz.prog x.1 x.2)(V:YOk Tryz.prog Y):aot Tryz.prog (Al E O Y):=DW h1 h2 V
variable {P:Program}{f:Nat}{C:List SV->Option Con}{l:List (Nat×(List SV->Option Con))}
def cp(h:P1 P f C)(t:∀ x∈l,P1 P x.1 x.2):∀ x∈(f,C)::l,P1 P x.1 x.2:=cgc h t
def cn(p:List Pk)(h:P1 P f C)(t:∀ x∈l,P1 P x.1 x.2):∀ x∈(f,λl=>C (y3 p l))::l,P1 P x.1 x.2:=cgc (h.norm p) t
def co{C:List SV->List Ob->Option aoJ}{l:List (Nat×(List SV->List Ob->Option aoJ))}(h:aoH P f C)(t:∀ x∈l,aoH P x.1 x.2):∀ x∈(f,C)::l,aoH P x.1 x.2:=cgc h t
section
variable {G:Cons}{f:FuncId}{C:List SV->Option Con}{D:List SV->List Ob->Option aoJ}
abbrev YO (fn:Func)(G:Cons)(l:List SV)(o:List Ob)(Q:Ex->St->Prop):Prop:=l.length<=fn.ntmps/\∃ L,ak Tryz.prog none fn.ntmps L (ae fn)/\exec ts G L (ae fn) ⟨nY 0 l,o⟩ Q
theorem fE (hG:aot Tryz.prog G) (fn:Func) (h:∀ l E,C l=some E->an E->YO fn G l [] (Ew true fn.results.toList ts (dZ E) (kZ E))) (V:Tryz.prog.funcs[f]? =some fn:=by kernel_rfl) (O:fn.body=some (ae fn):=by kernel_rfl) (hn:(fn.name== "runtime.NumGoroutine")=false:=by kernel_rfl) (hc:c7 fn.ntmps (ae fn)=true:=by kernel_rfl):P1 Tryz.prog f C:=
 UG true mixed aJ hG V O hn hc h
theorem fN (hG:aot Tryz.prog G) (fn:Func) (p:List Pk) (h:∀ l E,C l=some E->an E->YO fn G l [] (Ew false fn.results.toList ts (λs=>dZ E (yk p s)) (kZ E))) (V:Tryz.prog.funcs[f]? =some fn:=by kernel_rfl) (O:fn.body=some (ae fn):=by kernel_rfl) (hn:(fn.name== "runtime.NumGoroutine")=false:=by kernel_rfl) (hc:c7 fn.ntmps (ae fn)=true:=by kernel_rfl):P1 Tryz.prog f C:=
 By p mixed aJ hG V O hn hc h
theorem fW (hG:aot Tryz.prog G) (fn:Func) (l:List (ResultVar×Tag)) (h:∀ l0 E,C l0=some E->an E->YO fn G l0 [] (MN l fn.results.toList ts (dZ E) (kZ E))) (V:Tryz.prog.funcs[f]? =some fn:=by kernel_rfl) (O:fn.body=some (ae fn):=by kernel_rfl) (hn:(fn.name== "runtime.NumGoroutine")=false:=by kernel_rfl) (hc:c7 fn.ntmps (ae fn)=true:=by kernel_rfl):P1 Tryz.prog f C:=
 VJ l mixed aJ hG V O hn hc h
theorem fR (hG:aot Tryz.prog G) (fn:Func) (h:∀ l o E,D l o=some E->∃ p S H,E=fK p S H/\(p->YO fn G l o (Q5 o.length fn.results.toList ts S H))) (V:Tryz.prog.funcs[f]? =some fn:=by kernel_rfl) (O:fn.body=some (ae fn):=by kernel_rfl) (hn:(fn.name== "runtime.NumGoroutine")=false:=by kernel_rfl) (hc:c7 fn.ntmps (ae fn)=true:=by kernel_rfl):aoH Tryz.prog f D:=
 MG mixed aJ hG V O hn hc h
end
end Go.Sx
end
section
namespace Go.Sx
open Go.Proofs
open IntKind (i64 u64)
variable {l0:List Nat}{p:Prop}
theorem uM(a0:JL l0)(h:JL l0->p:=by intro ja;(first|done|(repeat' (first|with_reducible refine And.intro ?_ ?_|((with_reducible show _≠_);first|assumption|omega|(simp_all [cy,ei];done) |grind) |with_reducible intro _)) <;>(first|done|with_reducible exact Empty.elim ‹Empty› |with_reducible assumption|rfl|omega|assumption|decide|exact fk ja|(simp only[*,cond_true,cond_false,alj,als,go_sem];done) |(simp only[*,cond_true,cond_false,alj,als,go_sem];(repeat' (first|with_reducible refine And.intro ?_ ?_|((with_reducible show _≠_);first|assumption|omega|(simp_all [cy,ei];done) |grind) |with_reducible intro _)) <;>(first|done|assumption|rfl|omega|decide|exact fk ja|(simp_all [cy,ei];done))) |(simp_all [okI,cy,ei];done) |(simp_all [cy,ei];(first|done|exact fk2 ja)) |exact fk2 ja))):p:=h a0
theorem bE(a0:JL l0)(h:JL l0->p:=by intro ja;simp only[go_sem,hc,hw];all_goals exact uM ja):p:=h a0
theorem bF(a0:JL l0)(h:JL l0->p:=by intro ja;simp only[go_sem,hc];all_goals exact uM ja):p:=h a0
def kP (x:Int):Bool:=false
@[go_sem] def Dj:List SV->Option Con:=(pI λx=>(pE (.det True (.v (.bool (kP x))))))
theorem zq2(h:p:=by simp only[go_sem];all_goals exact cl):p:=h
theorem BI:P1 Tryz.prog 137 Dj:=by
 have hG:=mG W2 W2;refine fN hG Tryz.f137 [.o] (aG λx=>(am (λE=>?_)));dsimp only[an]at E;refine⟨nbl rfl,L0,ag _,?_⟩;unfold ae Tryz.f137;try unfold kP
 exact zq2
def bj (x:Int)(y:Int):Int:=(bif(kP x)then(bif(kP y)then 0 else(-1))else(bif(kP y)then 1 else(bif(decide (x<y))then(-1)else(bif(decide (x > y))then 1 else 0))))
@[go_sem] def oD:List SV->Option Con:=(pI λx=>(pI λy=>(pE (.det True (.v (.int .i64 (bj x y)))))))
theorem eX:P1 Tryz.prog 82 oD:=by
 have hG:=mG (cp BI W2) W2;refine fN hG Tryz.f82 [.o] (aG λx=>(aG λy=>(am (λE=>?_))));dsimp only[an]at E;refine⟨nbl rfl,L0,ag _,?_⟩;unfold ae Tryz.f82;try unfold bj
 exact zq2
def dp (n:Int):Int:=(bif(decide (n<0))then(u64.wrap (0 - (u64.wrap n)))else(u64.wrap n))
@[go_sem] def Ar:List SV->Option Con:=(pI λn=>(pE (.det True (.v (.int .u64 (dp n))))))
theorem sM:P1 Tryz.prog 275 Ar:=by
 have hG:=mG W2 W2;refine fN hG Tryz.f275 [.o] (aG λn=>(am (λE=>?_)));dsimp only[an]at E;refine⟨nbl rfl,L0,ag _,?_⟩;unfold ae Tryz.f275;try unfold dp
 exact zq2
def aV (a:W1):Int:=(bif(((((decide (a.d<1)) ||(decide (a.d > 1073741824))) ||(decide (a.n< (-1073741824)))) ||(decide (a.n > 1073741824))) ||(((MF (Int.toNat (dp a.n)) (Int.toNat (u64.wrap a.d)):Nat):Int) !=1))then 120 else 0)
def yN (a:W1):Prop:=(((((decide (a.d<1)) ||(decide (a.d > 1073741824))) ||(decide (a.n< (-1073741824)))) ||(decide (a.n > 1073741824)))=false->(0<=(dp a.n)/\0<=(u64.wrap a.d)))
theorem Fl (n:Int):0<=u64.wrap n:=by
 simp[IntKind.wrap,IntKind.bits,IntKind.signed];omega
theorem BK (n:Int):0<=dp n:=by
 unfold dp;cases decide (n<0) <;>exact Fl _
def Fo (a:W1):yN a:=λ_=>⟨BK _,Fl _⟩
@[go_sem] def Hr:List SV->Option Con:=(pD .ratio λa=>(pE (.det True (.v (.int .i64 (aV a))))))
theorem zq5(h:p:=by simp only[go_sem,C83];all_goals exact cl):p:=h
theorem oE:P1 Tryz.prog 222 Hr:=by
 have hG:=mG (cp VB (cp sM W2)) W2;refine fN hG Tryz.f222 [.o] (az λa=>(am (λE=>?_)));dsimp only[an]at E;have E:=Fo a;unfold yN at E;refine⟨nbl rfl,L0,ag _,?_⟩;unfold ae Tryz.f222;try unfold aV
 exact zq5
def g9 (a:W1)(b:W1):Int×Int:=(bif(((aV a) !=0) ||((aV b) !=0))then(0,120)else((bj (i64.wrap (a.n*b.d)) (i64.wrap (b.n*a.d))),0))
@[go_sem] def M3:List SV->Option Con:=(pD .ratio λa=>(pD .ratio λb=>(pE (.det True (.tup [.v (.int .i64 ((g9 a b).1)),.v (.int .i64 ((g9 a b).2))])))))
theorem As:P1 Tryz.prog 221 M3:=by
 have hG:=mG (cp eX (cp oE W2)) W2;refine fN hG Tryz.f221 [.o,.o] (az λa=>(az λb=>(am (λE=>?_))));dsimp only[an]at E;refine⟨nbl rfl,L0,ag _,?_⟩;unfold ae Tryz.f221;try unfold g9
 exact zq2
def Hs (ok:Bool)(e:Int):Unit:=(bif(!ok)then default else())
def dE (ok:Bool)(e:Int):Bool:=(bif(!ok)then false else true)
@[go_sem] def Dk:List SV->Option Con:=(pB λok=>(pI λe=>(pE (.may (dE ok e) (.tup []) (.iface 194 (.int .i64 e))))))
theorem uN:P1 Tryz.prog 61 Dk:=by
 have hG:=mG W2 W2;refine fN hG Tryz.f61 [] (BC λok=>(aG λe=>(am (λE=>?_))));dsimp only[an]at E;refine⟨nbl rfl,L0,ag _,?_⟩;unfold ae Tryz.f61;try unfold Hs
 try unfold dE
 exact zq2
@[go_sem] def cD (l_:List Int)(k_0:Nat)(x4:Unit):Unit⊕Unit:=(bif(decide ((l_.getD (Int.toNat ((k_0:Int)+1)) 0) < (l_.getD (Int.toNat (i64.wrap (((k_0:Int)+1) - 1))) 0)))then .inl ()else .inr ())
def kn (l_:List Int)(k_0:Nat)(x4:Unit):Prop:=(l_.length<=aN->((0<=((k_0:Int)+1)/\((k_0:Int)+1) < (l_.length:Int))/\(0<=(i64.wrap (((k_0:Int)+1) - 1))/\(i64.wrap (((k_0:Int)+1) - 1)) < (l_.length:Int))))
def aR (l_:List Int):Bool:=(match aj (cD l_) (l_.length - 1) 0 ()with| .inl u0=>false| .inr x4=>true)
def we (l_:List Int):Prop:=okI (cD l_) (kn l_) (l_.length - 1) 0 ()
theorem BL (E:List Int):we E:=g8 _ _ _ λj s h1 h2 O=>by
 unfold aN at O;rw[aA (by omega) (by omega)];omega
@[go_sem] def Dl:List SV->Option Con:=(pR .int λl_=>(pE (.det True (.v (.bool (aR l_))))))
theorem zq8(h:p:=by simp only[go_sem,hb0]):p:=h
theorem zq9(h:p:=by simp only[go_sem,cD,hc0,hw0];all_goals exact cl):p:=h
theorem arD(h:p:=by simp only[go_sem,hc0];all_goals exact cl2):p:=h
theorem pG:P1 Tryz.prog 113 Dl:=by
 have hG:=mG W2 W2;refine fN hG Tryz.f113 [.o] (bM λE=>(am (λX=>?_)));dsimp only[an]at X;have X:=BL E;unfold we at X;refine⟨nbl rfl,(λid st=>bif Nat.beq id 0 then some (LC (ρ:=Unit) (σ:=Unit) (lk 0 st.t=.rs .int E/\lk 3 st.t=.v (.int .i64 1)/\st.h=[]/\okI (cD E) (kn E) (E.length - 1) 0 ()) (aj (cD E) (E.length - 1) 0 ()) (λ_=>.ret) (λu0=>⟨[(2,.v (.bool false))],[]⟩) (λx4=>⟨[],[]⟩))else none),?_,?_⟩
 ·unfold ae Tryz.f113;simp only[ak,true_and,and_true]
  ·refine IR mixed aJ hG kr λst lc hC X=>?_;simp only[go_sem,Nat.reduceBEq,ak3]at hC;subst hC;obtain⟨t,h⟩:=st;dsimp only[LC]at X;obtain⟨e0_0,e0_1,rfl,Y⟩:=X;refine⟨_,_,_,(cD E),(kn E),(E.length - 1),(),_,_,_,(λO x4=>⟨[(0,.rs .int E),(3,.v (.int .i64 ((O:Int)+1)))],[]⟩),[],rfl,Y,ak2 _,?_,λO x4 hk0 hp0=>?_⟩
   ·simp only[go_sem,e0_0,e0_1];all_goals (first|done|decide|(repeat' (first|refine And.intro ?_ ?_|rfl|decide)))
   refine⟨L0,?_,?_⟩;simp only[ak,and_self,true_and,and_true]
   ·by_cases hb0:E.length<=aN
    rotate_left
    exact zq8;by_cases W:O< (E.length - 1)
    have hw0:i64.wrap (((O:Nat):Int)+1+1)=((O+1:Nat):Int)+1:=by(have hbb:=hb0;have hll:=W;try unfold aN at hbb);rw[aA (by omega) (by omega)];omega
    have V:=hp0 W;unfold kn at V
    replace V:=V hb0
    try simp only[hw0,ak1]at V
    have hc0:decide (((O:Int)+1) < (E.length:Int))=true:=by simp only[decide_eq_true_eq];omega
    exact zq9;have hc0:decide (((O:Int)+1) < (E.length:Int))=false:=by simp only[decide_eq_false_iff_not];omega
    exact arD
 unfold ae Tryz.f113;try unfold aR
 exact zq2
def cJ (i:Int)(n:Int):Bool:=((decide (i>=0))&&(decide (i<n)))
@[go_sem] def Fq:List SV->Option Con:=(pI λi=>(pI λn=>(pE (.det True (.v (.bool (cJ i n)))))))
theorem rl:P1 Tryz.prog 115 Fq:=by
 have hG:=mG W2 W2;refine fN hG Tryz.f115 [.o] (aG λi=>(aG λn=>(am (λE=>?_))));dsimp only[an]at E;refine⟨nbl rfl,L0,ag _,?_⟩;unfold ae Tryz.f115;try unfold cJ
 exact zq2
def jt (x:W1×W1):Bool:=(((((g9 x.1 x.2).2==0)&&(decide (x.1.n>=0)))&&(decide ((g9 x.1 x.2).1<=0)))&&(decide (x.2.n<=x.2.d)))
@[go_sem] def Ft:List SV->Option Con:=(pD .ao9 λx=>(pE (.det True (.v (.bool (jt x))))))
theorem Dm:P1 Tryz.prog 176 Ft:=by
 have hG:=mG (cp As W2) W2;refine fN hG Tryz.f176 [.o] (az λx=>(am (λE=>?_)));dsimp only[an]at E;refine⟨nbl rfl,L0,ag _,?_⟩;unfold ae Tryz.f176;try unfold jt
 exact zq2
def dy (i:Int)(x:Reach):Bool:=letI q0:=aR ([0,x.apd.lo,x.apd.hi,1073741824]);letI q1:=aR ([0,x.aoI,x.ao7,1099511627776]);letI q2:=aR ([0,x.aoI,x.cap,1073741824]);letI q3:=aR ([1,x.delay,16]);letI q4:=jt x.aoT;(bif(decide (i > 0))then((((((cJ x.up i)&&q3)&&q2)&&q1)&&q0)&&q4)else((((((x.up==(-1))&&q3)&&q2)&&q1)&&q0)&&q4))
@[go_sem] def Fu:List SV->Option Con:=(pI λi=>(pD .reach λx=>(pE (.det True (.v (.bool (dy i x)))))))
theorem Dn:P1 Tryz.prog 114 Fu:=by
 have hG:=mG (cn [.sl .int] pG (cp rl (cp Dm W2))) W2;refine fN hG Tryz.f114 [.o] (aG λi=>(az λx=>(am (λE=>?_))));dsimp only[an]at E;refine⟨nbl rfl,L0,ag _,?_⟩;unfold ae Tryz.f114;try unfold dy
 exact zq2
def iA (a0:ah)(a1:aoU):Bool:=letI q0:=(a1.every==0)&&(a1.length==0);letI q1:=i64.wrap (a0.hours - 1);letI q2:=a1.reach==a1.reach;letI q3:=a1.name==a1.name;letI q4:=a1.kind==a1.kind;letI q5:=a1.gl==a1.gl;(bif(((!(cJ a1.gl (a0.zs.length:Int))) ||(!(cJ a1.reach (a0.reaches.length:Int)))) ||(!(aR ([0,a1.since,a1.to,q1]))))then false else(bif(a1.kind==1)then((((a1.reach==0)&&(aR ([0,a1.aoA,1048576])))&&(aR ([1,a1.dd,1073741824])))&&(aR ([1,a1.length,a1.every,a0.hours])))else(bif(a1.kind==2)then(q3&&(q4&&(q5&&(q2&&((a1.aoA==0)&&((a1.dd==0)&&((a1.since==0)&&((a1.to==q1)&&q0))))))))else(bif(a1.kind==3)then(q3&&(q4&&(q5&&(q2&&((a1.aoA==0)&&((a1.dd==0)&&((a1.since==a1.since)&&((a1.to==a1.to)&&q0))))))))else false))))
@[go_sem] def Fv:List SV->Option Con:=(pD .al λa0=>(pD .right λa1=>(pE (.det True (.v (.bool (iA a0 a1)))))))
theorem Do:P1 Tryz.prog 116 Fv:=by
 have hG:=mG (cn [.sl .int] pG (cp rl W2)) W2;refine fN hG Tryz.f116 [.o] (az λa0=>(az λa1=>(am (λE=>?_))));dsimp only[an]at E;refine⟨nbl rfl,L0,ag _,?_⟩;unfold ae Tryz.f116;try unfold iA
 exact zq2
@[go_sem] def d5 (a0:ah)(a1:Int)(k_0:Nat)(x4:Unit):Unit⊕Unit:=(bif(dE (dy (k_0:Int) (a0.reaches.getD k_0 default)) a1)then .inr ()else .inl ())
@[go_sem] def eK (a0:ah)(a1:Int)(k_1:Nat)(s_1:Unit):Unit⊕Unit:=(bif(dE (aR ([0,(a0.aoK.getD k_1 default).need,1048576])) a1)then .inr ()else .inl ())
@[go_sem] def d6 (a0:ah)(a1:Int)(k_2:Nat)(s_2:Unit):Unit⊕Unit:=letI q0:=a0.zs.getD k_2 default;letI q1:=cJ (q0.reach) (a0.reaches.length:Int);letI q2:=aR ([0,q0.ap6,1048576]);(bif(decide (q0.ap6 > 0))then(bif(dE (((cJ (q0.apa) (a0.aoK.length:Int))&&q1)&&q2) a1)then .inr ()else .inl ())else(bif(dE (((q0.apa==(-1))&&q1)&&q2) a1)then .inr ()else .inl ()))
@[go_sem] def d7 (a0:ah)(a1:Int)(k_3:Nat)(s_3:Unit):Unit⊕Unit:=(bif(dE (iA a0 (a0.ai.getD k_3 default)) a1)then .inr ()else .inl ())
@[go_sem] def fu (a0:ah)(a1:Int)(k_4:Nat)(s_4:Unit):Unit⊕Unit:=letI q0:=a0.aoF.getD k_4 default;(bif(dE (((cJ (q0.gl) (a0.zs.length:Int))&&(cJ (q0.reach) (a0.reaches.length:Int)))&&(aR ([0,q0.due,a0.hours]))) a1)then .inr ()else .inl ())
def Fx (a0:ah)(a1:Int):Unit:=(bif(dE (((aR ([1,a0.hours,4096]))&&(aR ([0,a0.aoE.start,a0.aoE.cap,1099511627776])))&&(decide ((a0.reaches.length:Int) > 0))) a1)then(match aj (d5 a0 a1) a0.reaches.length 0 ()with| .inl u0=>default| .inr x4=>(match aj (eK a0 a1) a0.aoK.length 0 ()with| .inl ape=>default| .inr s_1=>(match aj (d6 a0 a1) a0.zs.length 0 ()with| .inl ao6=>default| .inr s_2=>(match aj (d7 a0 a1) a0.ai.length 0 ()with| .inl apZ=>default| .inr s_3=>(match aj (fu a0 a1) a0.aoF.length 0 ()with| .inl aoy=>default| .inr s_4=>())))))else default)
def fV (a0:ah)(a1:Int):Bool:=(bif(dE (((aR ([1,a0.hours,4096]))&&(aR ([0,a0.aoE.start,a0.aoE.cap,1099511627776])))&&(decide ((a0.reaches.length:Int) > 0))) a1)then(match aj (d5 a0 a1) a0.reaches.length 0 ()with| .inl u0=>false| .inr x4=>(match aj (eK a0 a1) a0.aoK.length 0 ()with| .inl ape=>false| .inr s_1=>(match aj (d6 a0 a1) a0.zs.length 0 ()with| .inl ao6=>false| .inr s_2=>(match aj (d7 a0 a1) a0.ai.length 0 ()with| .inl apZ=>false| .inr s_3=>(match aj (fu a0 a1) a0.aoF.length 0 ()with| .inl aoy=>false| .inr s_4=>true)))))else false)
@[go_sem] def BN:List SV->Option Con:=(pD .al λa0=>(pI λa1=>(pE (.may (fV a0 a1) (.tup []) (.iface 194 (.int .i64 a1))))))
theorem At:P1 Tryz.prog 62 BN:=by
 have hG:=mG (cp uN (cn [.sl .int] pG (cp Dn (cp rl (cn [.st .al,.st .right] Do W2))))) W2;refine fN hG Tryz.f62 [] (az λa0=>(aG λa1=>(am (λhp=>?_))));dsimp only[an]at hp;refine⟨nbl rfl,(λid st=>bif Nat.beq id 0 then some (LCR (ρ:=Unit) (σ:=Unit) 1 [] [0] (λW V=>⟨[(1,.v (.int .i64 a1)),(2,.ptr 0 0),(38,.rs .reach a0.reaches),(39,.v (.int .i64 (a0.reaches.length:Int))),(40,.v (.int .i64 (W:Int)))],[.cells (cellsOf .al a0)]⟩) (d5 a0 a1) pT a0.reaches.length () (a0.reaches.length<=aN) (λ_=>.pan (.iface 194 (.int .i64 a1))) (λu0=>⟨[],[.dead]⟩) st)else bif Nat.beq id 2 then some (LCR (ρ:=Unit) (σ:=Unit) 1 [] [0] (λX O=>⟨[(1,.v (.int .i64 a1)),(2,.ptr 0 0),(52,.rs .apa a0.aoK),(53,.v (.int .i64 (a0.aoK.length:Int))),(54,.v (.int .i64 (X:Int)))],[.cells (cellsOf .al a0)]⟩) (eK a0 a1) pT a0.aoK.length () (a0.aoK.length<=aN) (λ_=>.pan (.iface 194 (.int .i64 a1))) (λape=>⟨[],[.dead]⟩) st)else bif Nat.beq id 4 then some (LCR (ρ:=Unit) (σ:=Unit) 1 [] [0] (λk_2 s_2=>⟨[(1,.v (.int .i64 a1)),(2,.ptr 0 0),(66,.rs .gl a0.zs),(67,.v (.int .i64 (a0.zs.length:Int))),(68,.v (.int .i64 (k_2:Int)))],[.cells (cellsOf .al a0)]⟩) (d6 a0 a1) pT a0.zs.length () (a0.zs.length<=aN) (λ_=>.pan (.iface 194 (.int .i64 a1))) (λao6=>⟨[],[.dead]⟩) st)else bif Nat.beq id 6 then some (LCR (ρ:=Unit) (σ:=Unit) 1 [] [0] (λY E=>⟨[(1,.v (.int .i64 a1)),(2,.ptr 0 0),(103,.rs .right a0.ai),(104,.v (.int .i64 (a0.ai.length:Int))),(105,.v (.int .i64 (Y:Int)))],[.cells (cellsOf .al a0)]⟩) (d7 a0 a1) pT a0.ai.length () (a0.ai.length<=aN) (λ_=>.pan (.iface 194 (.int .i64 a1))) (λapZ=>⟨[],[.dead]⟩) st)else bif Nat.beq id 8 then some (LCR (ρ:=Unit) (σ:=Unit) 1 [] [0] (λk_4 s_4=>⟨[(1,.v (.int .i64 a1)),(2,.ptr 0 0),(116,.rs .apn a0.aoF),(117,.v (.int .i64 (a0.aoF.length:Int))),(118,.v (.int .i64 (k_4:Int)))],[.cells (cellsOf .al a0)]⟩) (fu a0 a1) pT a0.aoF.length () (a0.aoF.length<=aN) (λ_=>.pan (.iface 194 (.int .i64 a1))) (λaoy=>⟨[],[.dead]⟩) st)else none),?_,?_⟩;unfold ae Tryz.f62;simp only[ak,true_and,and_true];refine⟨?_,?_,?_,?_,?_⟩;refine b_ mixed aJ hG kr (λ_=>rfl) (a0.reaches.length:Int) rfl fH (λhb0 W V apq _ hw hc=>⟨L0,ag _,?_⟩) (λhb0 V hc=>?_);exact bE (jl [0]);exact bF (jl [0]);refine b_ mixed aJ hG kr (λ_=>rfl) (a0.aoK.length:Int) rfl fH (λhb1 X O apU _ hw hc=>⟨L0,ag _,?_⟩) (λhb1 O hc=>?_);exact bE (jl [0]);exact bF (jl [0]);refine b_ mixed aJ hG kr (λ_=>rfl) (a0.zs.length:Int) rfl fH (λhb2 k_2 s_2 hlt2 _ hw hc=>⟨L0,ag _,?_⟩) (λhb2 s_2 hc=>?_);exact bE (jl [0]);exact bF (jl [0]);refine b_ mixed aJ hG kr (λ_=>rfl) (a0.ai.length:Int) rfl fH (λhb3 Y E hlt3 _ hw hc=>⟨L0,ag _,?_⟩) (λhb3 E hc=>?_);exact bE (jl [0]);exact bF (jl [0]);refine b_ mixed aJ hG kr (λ_=>rfl) (a0.aoF.length:Int) rfl fH (λhb4 k_4 s_4 ar3 _ hw hc=>⟨L0,ag _,?_⟩) (λhb4 s_4 hc=>?_);exact bE (jl [0]);exact bF (jl [0]);unfold ae Tryz.f62;try unfold Fx
 try unfold fV
 exact zq2
def aw (d:ah):Int:=(bif(dE (((((decide ((d.reaches.length:Int)<=64))&&(decide ((d.zs.length:Int)<=600)))&&(decide ((d.aoK.length:Int)<=32)))&&(decide ((d.ai.length:Int)<=256)))&&(decide ((d.aoF.length:Int)<=256))) 2)then(bif(fV d 191)then 0 else 191)else 2)
@[go_sem] def Fy:List SV->Option Con:=(pD .al λd=>(pE (.det True (.v (.int .i64 (aw d))))))
theorem arw(h:p:=by simp only[go_sem,SE,Po,acp];all_goals exact cl):p:=h
theorem nI:P1 Tryz.prog 22 Fy:=by
 have hG:=mG (cp uN (cn [.st .al,.o] At W2)) W2;refine ab2 Vx [.o] mixed aJ hG (fn:=Tryz.f22) (c0:=SE (ae Tryz.f22)) (c1:=Po (Po (ae Tryz.f22))) (i1:=arQ (SE (Po (ae Tryz.f22)))) (o1:=agQ 0 (SE (Po (ae Tryz.f22)))) (o2:=agQ 1 (SE (Po (ae Tryz.f22)))) (t3:=3) (q:=2) (tys:= #[]) kr kr kr (by refine⟨?_,?_,?_⟩ <;>kernel_rfl) (by refine⟨?_,?_,?_⟩ <;>kernel_rfl) (nbl rfl) kr kr (az λd=>(am (λE=>?_)));dsimp only[an]at E;refine⟨nbl rfl,L0,L0,1,?_,?_,?_⟩;unfold ae Tryz.f22;simp only[SE,ak,and_self,true_and,and_true];unfold ae Tryz.f22;simp only[Po];simp only[ak,and_self,true_and,and_true];unfold ae Tryz.f22;try unfold aw
 exact arw
def oF (x:Order):Int:=x.hour
@[go_sem] def mO:List SV->Option Con:=(pD .order λx=>(pE (.det True (.v (.int .i64 (oF x))))))
theorem xf:P1 Tryz.prog 248 mO:=by
 have hG:=mG W2 W2;refine fN hG Tryz.f248 [.o] (az λx=>(am (λE=>?_)));dsimp only[an]at E;refine⟨nbl rfl,L0,ag _,?_⟩;unfold ae Tryz.f248;try unfold oF
 exact zq2
def sN (x:Order):Int:=(bif x.aol then 1 else 0)
@[go_sem] def pH:List SV->Option Con:=(pD .order λx=>(pE (.det True (.v (.int .i64 (sN x))))))
theorem Au:P1 Tryz.prog 249 pH:=by
 have hG:=mG W2 W2;refine fN hG Tryz.f249 [.o] (az λx=>(am (λE=>?_)));dsimp only[an]at E;refine⟨nbl rfl,L0,ag _,?_⟩;unfold ae Tryz.f249;try unfold sN
 exact zq2
def oG (x:Order):Int:=x.index
@[go_sem] def mP:List SV->Option Con:=(pD .order λx=>(pE (.det True (.v (.int .i64 (oG x))))))
theorem xg:P1 Tryz.prog 250 mP:=by
 have hG:=mG W2 W2;refine fN hG Tryz.f250 [.o] (az λx=>(am (λE=>?_)));dsimp only[an]at E;refine⟨nbl rfl,L0,ag _,?_⟩;unfold ae Tryz.f250;try unfold oG
 exact zq2
end Go.Sx
end
section
namespace Go.Proofs
open Go.Shelf
def Tryz.aqC:Go.Shelf.Ren:=⟨λ|20=>73|n=>n,λ|22=>35|n=>n,λ|n=>n⟩
theorem Tryz.cpI:Go.Proofs.Lays2.n20 Tryz.prog Tryz.aqC:= {
 mixed:=by kernel_rfl
 f20:=Tryz.func73.trans (congrArg some (by kernel_rfl))
 t0:=Tryz.underlying0
 a0:=Tryz.isAgg0
 z0:=Tryz.sizeOf0
 v0:=Tryz.zeroValue0
 t3:=Tryz.underlying3
 a3:=Tryz.isAgg3
 z3:=Tryz.sizeOf3
 v3:=Tryz.zeroValue3
 t4:=Tryz.underlying4
 a4:=Tryz.isAgg4
 z4:=Tryz.sizeOf4
 v4:=Tryz.zeroValue4
 t22:=Tryz.underlying35
 a22:=Tryz.isAgg35
 z22:=Tryz.sizeOf35
 v22:=Tryz.zeroValue35
 i3:=by kernel_rfl}
end Go.Proofs
namespace Go.Sx
open Go.RowKit Go.Shelf Go.Lib Go.Sort Go.Proofs
def cpI (l:List Int):List Int:=Lib.compact l
theorem YP (l:List Int):(cpI l).length<=l.length:=by
 unfold cpI Lib.compact Lib.compactUpTo;rw[alY];exact ald (alT _ _) (by simp)
noncomputable def VU:List SV->List Ob->Option aoJ:=jf (λx_:List Int=>[.os 0]) (λx_=>[.row .int x_]) (λx_=>fK True (.os 1) [.dead,.row .int (cpI x_)])
@[go_sem]def ahq (l_:List Int):VU ([.os 0]) ([.row .int l_])=some (fK True (.os 1) [.dead,.row .int (cpI l_)]):=fL (A:=λx_:List Int=>[.os 0]) (H:=λx_=>[.row .int x_]) (K:=λx_=>fK True (.os 1) [.dead,.row .int (cpI x_)]) (x:=l_)
section
variable {P:Program}{ρ:Ren}
theorem Ht (L:Lays2.n20 P ρ)(he:∀ (args:Array Value) (w:World),(callFunc (ρ.f 20) args).run P w=.ok (.enter (ρ.f 20) args) w):aoH P (ρ.f 20) VU:=by
 refine⟨λl h c hc args w=>he args w,λl h c hc hp F own w vs O hvs=>?_⟩;obtain⟨l0,rfl,rfl,rfl⟩:=dV hc;clear hc;obtain⟨hsz,apu⟩:=hvs;have r0:=apu 0 _ rfl;have Y:vs= #[vs.getD 0 undef]:=by
  apply aon;simpa using hsz;intro i h1 h2;simp only[ak5,alo]at hsz;match i,h1,h2 with
  |0,h1,_=>simp[Array.getD,h1]|i+1,h1,_=>omega
 generalize vs.getD 0 undef=v0 at r0 Y;subst Y;obtain⟨hd,o0,rfl,_⟩:=iz r0;obtain⟨hd',o0',W⟩:=O.at (id:=0) (o:=.row .int l0) rfl rfl;rw[o0]at o0';cases o0';have W:aoO F own w .int l0 hd.v hd.bs:=W;have hdom:∀ i h2,own i=some h2->i=0:=λi h2 e=>by have:=O.dom i h2 e;simp at this;exact this
 have fin:∀ (X:Value) (w':World),pt X=true->aoO F (λi=>if i=1 then some { hd with v:=X}else if i=0 then some { hd with bs:=[]}else none) w' .int (cpI l0) X hd.bs->w.heap.size<=w'.heap.size->w'.os=w.os->w'.tape=w.tape->w'.output=w.output->(∀ c,c<w.heap.size->c ∉ hd.bs->w'.heap[c]? =w.heap[c]?)->
   ∃ r ee,(fK True (.os 1) [.dead,.row .int (cpI l0)]).post r/\J4 F w own 1 (.returned X) ee w' ((fK True (.os 1) [.dead,.row .int (cpI l0)]).res r):=by
  intro X w' h1 hr hs q1 q2 q3 hold;refine⟨(),λi=>if i=1 then some { hd with v:=X}else if i=0 then some { hd with bs:=[]}else none,trivial,⟨X,rfl,?_⟩,?_,?_,by simp⟩;have:=Rel.os (F:=F) (own:=λi=>if i=1 then some { hd with v:=X}else if i=0 then some { hd with bs:=[]}else none) (w:=w') (id:=1) (hd:= { hd with v:=X}) (by simp) h1;exact this;refine⟨λid h2 e=>?_,λb hb=>ale (O.aoB b hb) hs,λid h2 b e hb=>?_,λi j hi hj b e1 e2 b1 b2=>?_,λid h2 b e hb=>?_,λid E=>?_⟩;show id<2;by_cases h1:id=1
  omega;by_cases h0:id=0
  omega;simp[h1,h0]at e;grind [O.apart 0 hd b o0]
  grind
  have:=O.lt 0 hd b o0 (by grind);omega;match id,E with
  |0,E=>cases E
  |1,_=>
   refine⟨{ hd with v:=X},by simp,?_⟩;exact hr
  |i+2,E=>rw[mW (by simp)]at E;cases E
  refine⟨λid h2 e=>?_,λid h2 b e hb ho=>?_,q1,q2,q3,hs,λc hc=>hold c hc.1 λhm=>hc.2 ⟨0,hd,o0,hm⟩⟩;have:=hdom id h2 e;subst this;have e:own 0=some h2:=e;rw[o0]at e;cases e;exact⟨{ hd with bs:=[]},by simp,rfl,rfl,rfl⟩;refine ho.2 ⟨0,hd,o0,?_⟩;grind
 rcases W with⟨a,e1,rfl,e2⟩ | ⟨b,o,cap,cells,ty,e1,e2,e3,e4,e5,e6,e7⟩;rw[e1];refine(Any.slices_Compact_int_empty L a 0 w).mono λe w' he=>?_;obtain⟨rfl,rfl⟩:=he;exact fin _ _ rfl (.inl ⟨a,rfl,rfl,e2⟩) (ak2 _) rfl rfl rfl λ_ _ _=>rfl;have V:b∈hd.bs:=by rw[e2];simp
 have hbw:b<w.heap.size:=O.lt 0 hd b o0 V;have hH:Holds (Value.int .i64) w b o (l0:List Int).toArray:=by
  intro t ht;simp only[amR]at ht;have q1:=BG xS e7 (i:=t) (j:=0) ht (by decide);have e0:aa .int=1:=rfl;rw[e0,amT,al_]at q1;constructor
  unfold World.cell?;rw[e3];dsimp only;rw[q1,getElem!_pos _ t (by simpa using ht)];rfl;unfold World.frozen?;rw[e3];simp
 have hlen:l0.length<=9223372036854775807:=by unfold aN at e6;omega
 have hall:=Any.slices_Compact_int L b o cap l0 w hH hlen e5;rw[e1];refine hall.mono λe w' he=>?_;obtain⟨rfl,n,rfl⟩:=he;have hlS:(cpI l0).length<=l0.length:=YP l0;have hc1:aa .int=1:=rfl;generalize hD:(Lib.compact l0++List.replicate (l0.length - (Lib.compact l0).length) 0:List Int)=D;have hDl:D.length=l0.length:=by
  have:(Lib.compact l0).length<=l0.length:=hlS;rw[<-hD];simp;omega
 have hsb:(putRow (Value.int .i64) (Sort.ahead w n) b o D.toArray).heap[b]? =some (.cells (putCells (Value.int .i64) o D.toArray cells) ty (0,0)):=aam (w:=Sort.ahead w n) e3 _ _;have hsz':w.heap.size<=(putRow (Value.int .i64) (Sort.ahead w n) b o D.toArray).heap.size:=by
  unfold putRow mapBlock Sort.ahead;simp
 refine fin _ _ rfl (.inr ⟨b,o,cap,_,ty,rfl,e2,hsb,?_,ald hlS e5,by show(cpI l0).length<=aN;omega,BH xS λi j hi hj=>?_⟩) hsz' rfl rfl rfl λc hc hn=>VT (w:=Sort.ahead w n) (show c≠b from λe=>hn (by rw[e];exact V)) _ _;unfold putCells;simpa using e4;rw[hc1]at hj |-;have hj0:j=0:=by omega
 subst hj0;have hi2:i<D.length:=by rw[hDl];omega
 rw[amT,al_,M0 (by simpa using hi2) (by simp only[hc1,amT]at e4 e5;omega)];have hg:D[i]=(cpI l0)[i]'hi:=by
  subst hD;rw[List.getElem_append_left];rfl
 simp[tB,cellsOf,aak,hg]
end
theorem acL:aoH Tryz.prog 73 VU:=Ht Tryz.cpI λargs w=>by kernel_rfl
end Go.Sx
end
section
namespace Go.Sx
open Go.Proofs
open IntKind (i64 u64)
def lL (n:Int)(d:Int):Int:=(i64.wrap (Int.tdiv (i64.wrap (n - (Int.tmod (i64.wrap ((Int.tmod n d)+d)) d))) d))
def rR (n:Int)(d:Int):Prop:=(d≠0/\(d≠0/\d≠0))
@[go_sem] def Ku:List SV->Option Con:=(pI λn=>(pI λd=>(pE (.det (rR n d) (.v (.int .i64 (lL n d)))))))
theorem Hu:P1 Tryz.prog 223 Ku:=by
 have hG:=mG W2 W2;refine fN hG Tryz.f223 [.o] (aG λn=>(aG λd=>(am (λE=>?_))));dsimp only[an]at E;unfold rR at E;refine⟨nbl rfl,L0,ag _,?_⟩;unfold ae Tryz.f223;try unfold lL
 exact zq2
def eY (a:W1)(n:Int):Int×Int×Int:=(bif((aV a) !=0)then(0,0,(aV a))else(bif((decide (n< (-1073741824))) ||(decide (n > 1073741824)))then(0,0,1)else((lL (i64.wrap (a.n*n)) a.d),(i64.wrap (0 - (lL (i64.wrap ((i64.wrap (0 - a.n))*n)) a.d))),0)))
def yO (a:W1)(n:Int):Prop:=(((aV a) !=0)=false->(((decide (n< (-1073741824))) ||(decide (n > 1073741824)))=false->((rR (i64.wrap (a.n*n)) a.d)/\(rR (i64.wrap ((i64.wrap (0 - a.n))*n)) a.d))))
theorem Hv {a:W1}(h:(aV a !=0)=false):1<=a.d:=by
 unfold aV at h;by_cases hd:a.d<1
 simp[hd]at h;omega
theorem Fz (a:W1)(n:Int):yO a n:=λh _=>by
 have:=Hv h;exact⟨⟨by omega,by omega,by omega⟩,⟨by omega,by omega,by omega⟩⟩
@[go_sem] def Hw:List SV->Option Con:=(pD .ratio λa=>(pI λn=>(pE (.det True (.tup [.v (.int .i64 ((eY a n).1)),.v (.int .i64 ((eY a n).2.1)),.v (.int .i64 ((eY a n).2.2))])))))
theorem xj:P1 Tryz.prog 151 Hw:=by
 have hG:=mG (cp oE (cp Hu W2)) W2;refine fN hG Tryz.f151 [.o,.o,.o] (az λa=>(aG λn=>(am (λE=>?_))));dsimp only[an]at E;have E:=Fz a n;unfold yO at E;refine⟨nbl rfl,L0,ag _,?_⟩;unfold ae Tryz.f151;try unfold eY
 exact zq2
def nQ (n:Int)(d:Int):W1×Int:=letI q3:=({ n:=0,d:=0}:W1);letI q6:=dp n;letI q7:=dp d;letI q0:=((MF (Int.toNat q6) (Int.toNat q7):Nat):Int);letI q1:=u64.wrap (Int.tdiv q6 q0);letI q2:=u64.wrap (Int.tdiv q7 q0);letI q4:=i64.wrap q1;letI q5:=i64.wrap q2;(bif(d==0)then(q3,120)else(bif(decide ((if q1<q2 then q2 else q1) > 1073741824))then(q3,2)else(bif((decide (n<0)) !=(decide (d<0)))then(({ n:=(i64.wrap (0 - q4)),d:=q5}:W1),0)else(({ n:=q4,d:=q5}:W1),0))))
def rS (n:Int)(d:Int):Prop:=letI q1:=dp n;letI q2:=dp d;letI q0:=((MF (Int.toNat q1) (Int.toNat q2):Nat):Int);((d==0)=false->((0<=q1/\0<=q2)/\(q0≠0/\q0≠0)))
@[go_sem] def Kv:List SV->Option Con:=(pI λn=>(pI λd=>(pE (.det (rS n d) (.tup [.agg (cellsOf .ratio ((nQ n d).1)),.v (.int .i64 ((nQ n d).2))])))))
theorem Hz:P1 Tryz.prog 337 Kv:=by
 have hG:=mG (cp VB (cp sM W2)) W2;refine fN hG Tryz.f337 [.st .ratio,.o] (aG λn=>(aG λd=>(am (λE=>?_))));dsimp only[an]at E;unfold rS at E;refine⟨nbl rfl,L0,ag _,?_⟩;unfold ae Tryz.f337;try unfold nQ
 exact zq5
def gP (a:W1)(b:W1):Int×Int:=((i64.wrap ((i64.wrap (a.n*b.d))+(i64.wrap (b.n*a.d)))),(i64.wrap (a.d*b.d)))
@[go_sem] def HA:List SV->Option Con:=(pD .ratio λa=>(pD .ratio λb=>(pE (.det True (.tup [.v (.int .i64 ((gP a b).1)),.v (.int .i64 ((gP a b).2))])))))
theorem FA:P1 Tryz.prog 312 HA:=by
 have hG:=mG W2 W2;refine fN hG Tryz.f312 [.o,.o] (az λa=>(az λb=>(am (λE=>?_))));dsimp only[an]at E;refine⟨nbl rfl,L0,ag _,?_⟩;unfold ae Tryz.f312;try unfold gP
 exact zq2
def gD (a:W1)(b:W1):W1×Int:=(bif(((aV a) !=0) ||((aV b) !=0))then(({ n:=0,d:=0}:W1),120)else(((nQ ((gP a b).1) ((gP a b).2)).1),(nQ ((gP a b).1) ((gP a b).2)).2))
def lM (a:W1)(b:W1):Prop:=((((aV a) !=0) ||((aV b) !=0))=false->(rS ((gP a b).1) ((gP a b).2)))
@[go_sem] noncomputable def xk:List SV->Option Con:=(pQ (.agg [.fn 312 [] []]) (pD .ratio λa=>(pD .ratio λb=>(pE (.det (lM a b) (.tup [.agg (cellsOf .ratio ((gD a b).1)),.v (.int .i64 ((gD a b).2))]))))))
theorem wv:P1 Tryz.prog 313 xk:=by
 have hG:=mG (cp oE (cp FA (cp Hz W2))) W2;refine fN hG Tryz.f313 [.st .ratio,.o] (acA (az λa=>(az λb=>(am (λE=>?_)))));dsimp only[an]at E;unfold lM at E;refine⟨nbl rfl,L0,ag _,?_⟩;unfold ae Tryz.f313;try unfold gD
 exact zq2
def g_ (a:W1)(b:W1):W1×Int:=(((gD a b).1),(gD a b).2)
def tW (a:W1)(b:W1):Prop:=(lM a b)
@[go_sem] def M4:List SV->Option Con:=(pD .ratio λa=>(pD .ratio λb=>(pE (.det (tW a b) (.tup [.agg (cellsOf .ratio ((g_ a b).1)),.v (.int .i64 ((g_ a b).2))])))))
theorem Kw:P1 Tryz.prog 278 M4:=by
 have hG:=mG (cp wv W2) W2;refine fN hG Tryz.f278 [.st .ratio,.o] (az λa=>(az λb=>(am (λE=>?_))));dsimp only[an]at E;unfold tW at E;refine⟨nbl rfl,L0,ag _,?_⟩;unfold ae Tryz.f278;try unfold g_
 exact zq2
def aU (n:Int)(lo:Int)(hi:Int):Bool:=((decide (n>=lo))&&(decide (n<=hi)))
@[go_sem] def HB:List SV->Option Con:=(pI λn=>(pI λlo=>(pI λhi=>(pE (.det True (.v (.bool (aU n lo hi))))))))
theorem sO:P1 Tryz.prog 226 HB:=by
 have hG:=mG W2 W2;refine fN hG Tryz.f226 [.o] (aG λn=>(aG λlo=>(aG λhi=>(am (λE=>?_)))));dsimp only[an]at E;refine⟨nbl rfl,L0,ag _,?_⟩;unfold ae Tryz.f226;try unfold aU
 exact zq2
def kQ (x:bn):Bool:=letI q1:=(x.parts.length:Int) ==0;letI q2:=x.of_==0;letI q3:=x.to==0;letI q0:=(((x.right==0)&&(x.since==0))&&q3)&&q1;(bif(x.kind==1)then(q1&&q2)else(bif(x.kind==2)then(q3&&q2)else(bif(x.kind==3)then((q3&&q1)&&q2)else(bif(x.kind==4)then q0 else(q0&&q2)))))
@[go_sem] def Dp:List SV->Option Con:=(pD .B1 λx=>(pE (.det True (.v (.bool (kQ x))))))
theorem BO:P1 Tryz.prog 227 Dp:=by
 have hG:=mG W2 W2;refine fN hG Tryz.f227 [.o] (az λx=>(am (λE=>?_)));dsimp only[an]at E;refine⟨nbl rfl,L0,ag _,?_⟩;unfold ae Tryz.f227;try unfold kQ
 exact zq2
@[go_sem] def fX (d:ah)(l_:List Part)(k_0:Nat)(x4:Int×Int×List (Int×Bool)):Unit⊕(Int×Int×List (Int×Bool)):=letI q1:=l_.getD k_0 default;letI q0:=g_ ({ n:=x4.1,d:=x4.2.1}:W1) (q1.share);(bif(((!(aU (q1.gl) 0 (i64.wrap ((d.zs.length:Int) - 1)))) ||(aq .int .bool x4.2.2 (q1.gl))) ||(decide (q1.share.n<=0)))then .inl ()else(bif(q0.2 !=0)then .inl ()else .inr ((q0.1).n,(q0.1).d,(cH .int .bool x4.2.2 (q1.gl) true))))
def mQ (d:ah)(l_:List Part)(k_0:Nat)(x4:Int×Int×List (Int×Bool)):Prop:=letI q0:=l_.getD k_0 default;(d.zs.length<=aN->((((!(aU (q0.gl) 0 (i64.wrap ((d.zs.length:Int) - 1)))) ||(aq .int .bool x4.2.2 (q0.gl))) ||(decide (q0.share.n<=0)))=false->(tW ({ n:=x4.1,d:=x4.2.1}:W1) (q0.share))))
def iT (d:ah)(l_:List Part):Bool:=(match aj (fX d l_) l_.length 0 (0,1,[])with| .inl u0=>false| .inr x4=>((aU (l_.length:Int) 1 16)&&((x4.1==1)&&(x4.2.1==1))))
def mC (d:ah)(l_:List Part):Prop:=(l_.length<=aN->okI (fX d l_) (mQ d l_) l_.length 0 (0,1,[]))
@[go_sem] def BP:List SV->Option Con:=(pD .al λd=>(pR .part λl_=>(pE (.det (mC d l_) (.v (.bool (iT d l_)))))))
theorem Av:P1 Tryz.prog 228 BP:=by
 have hG:=mG (cp sO (cp Kw W2)) W2;refine fN hG Tryz.f228 [.o] (az λd=>(bM λO=>(am (λY=>?_))));dsimp only[an]at Y;unfold mC at Y;refine⟨nbl rfl,(λid st=>bif Nat.beq id 0 then some (LCR (ρ:=Unit) (σ:=(Int×Int×List (Int×Bool))) 3 [] [0,1,2] (λV E=>⟨[(1,.rs .part O),(2,.ptr 0 0),(5,.ptr 2 0),(6,.os 1),(13,.rs .part O),(14,.v (.int .i64 (O.length:Int))),(15,.v (.int .i64 (V:Int)))],[.cells (cellsOf .al d),.mp .int .bool E.2.2 none,.cells [.v (.int .i64 E.1),.v (.int .i64 E.2.1)]]⟩) (fX d O) (mQ d O) O.length (0,1,[]) (O.length<=aN) (λ_=>.ret) (λX=>⟨[(4,.v (.bool false))],[.dead,.dead,.dead]⟩) st)else none),?_,?_⟩;unfold ae Tryz.f228;simp only[ak,true_and,and_true];refine b_ mixed aJ hG kr (λ_=>rfl) (O.length:Int) rfl fH (λhb0 V E apq W hw hc=>⟨L0,ag _,?_⟩) (λhb0 E hc=>?_);unfold mQ at W;try simp only[hw,ak1]at W
 exact bE (jl [0,1,2]);exact bF (jl [0,1,2]);unfold ae Tryz.f228;try unfold iT
 exact zq2
def dB (a0:ah)(a1:List (Int×bn))(a2:bn):Bool:=letI q1:=i64.wrap ((a0.zs.length:Int) - 1);letI q0:=((aU a2.right 0 (i64.wrap ((a0.ai.length:Int) - 1)))&&((a0.ai.getD (Int.toNat a2.right) default).kind==1))&&(aU a2.since 0 q1);letI q2:=aq .int .B1 a1 a2.of_;(bif((((!(aU a2.no 0 1048576)) ||(!(aU a2.at_ 0 4096))) ||(!(aU a2.known 0 1048576))) ||(!(kQ a2)))then false else(bif(a2.kind==1)then((q0&&(aU a2.to 0 q1))&&(a2.to !=a2.since))else(bif(a2.kind==2)then(q0&&(iT a0 a2.parts))else(bif(a2.kind==3)then q0 else(bif(a2.kind==4)then(((wL .int .B1 a1 a2.of_)&&(q2.kind !=4))&&(decide (a2.known>=q2.known)))else false)))))
def nJ (a0:ah)(a1:List (Int×bn))(a2:bn):Prop:=letI q1:=(a0.ai.length:Int);letI q0:=aU a2.right 0 (i64.wrap (q1 - 1));(((((!(aU a2.no 0 1048576)) ||(!(aU a2.at_ 0 4096))) ||(!(aU a2.known 0 1048576))) ||(!(kQ a2)))=false->(a0.zs.length<=aN->(a0.ai.length<=aN->((q0=true->(0<=a2.right/\a2.right<q1))/\((a2.kind==1)=false->((a2.kind==2)=true->(((q0&&((a0.ai.getD (Int.toNat a2.right) default).kind==1))&&(aU a2.since 0 (i64.wrap ((a0.zs.length:Int) - 1))))=true->(mC a0 a2.parts))))))))
@[go_sem] def Dq:List SV->Option Con:=(pD .al λa0=>(pM .int .B1 λa1=>(pD .B1 λa2=>(pE (.det (nJ a0 a1 a2) (.v (.bool (dB a0 a1 a2))))))))
theorem BQ:P1 Tryz.prog 155 Dq:=by
 have hG:=mG (cp sO (cn [.st .B1] BO (cn [.st .al,.sl .part] Av W2))) W2;refine fN hG Tryz.f155 [.o] (az λa0=>(acy λa1=>(az λO=>(am (λE=>?_)))));dsimp only[an]at E;unfold nJ at E;refine⟨nbl rfl,L0,ag _,?_⟩;unfold ae Tryz.f155;try unfold dB
 exact zq2
def fl (x:bn):Bool:=(decide ((x.parts.length:Int) > 16))
@[go_sem] def zm:List SV->Option Con:=(pD .B1 λx=>(pE (.det True (.v (.bool (fl x))))))
theorem ym:P1 Tryz.prog 154 zm:=by
 have hG:=mG W2 W2;refine fN hG Tryz.f154 [.o] (az λx=>(am (λE=>?_)));dsimp only[an]at E;refine⟨nbl rfl,L0,ag _,?_⟩;unfold ae Tryz.f154;try unfold fl
 exact zq2
@[go_sem] def cU (s_:List bn)(k_0:Nat)(x4:Unit):Int⊕Unit:=(bif(fl (s_.getD k_0 default))then .inl (k_0:Int)else .inr ())
def ed (s_:List bn):Int:=(match aj (cU s_) s_.length 0 ()with| .inl u0=>u0| .inr x4=>(-1))
@[go_sem] def fq:List SV->Option Con:=(pR .B1 λs_=>(pFn 154 (pE ((pE (.det True (.v (.int .i64 (ed s_)))))))))
theorem ia:P1 Tryz.prog 225 fq:=by
 have hG:=mG (cn [.st .B1] ym W2) W2;refine fN hG Tryz.f225 [.o] (bM λO=>(oC (am ((am (λY=>?_))))));dsimp only[an]at Y;refine⟨nbl rfl,(λid st=>bif Nat.beq id 0 then some (LCR (ρ:=Int) (σ:=Unit) 0 [] [] (λV W=>⟨[(0,.rs .B1 O),(1,.fn 154 [] []),(7,.v (.int .i64 (O.length:Int))),(8,.v (.int .i64 (V:Int)))],[]⟩) (cU O) pT O.length () (O.length<=aN) (λ_=>.ret) (λE=>⟨[(4,.v (.int .i64 E))],[]⟩) st)else none),?_,?_⟩;unfold ae Tryz.f225;simp only[ak,true_and,and_true];refine b_ mixed aJ hG kr (λ_=>rfl) (O.length:Int) rfl fH (λhb0 V W X _ hw hc=>⟨L0,ag _,?_⟩) (λhb0 W hc=>?_);exact bE (jl []);exact bF (jl []);unfold ae Tryz.f225;try unfold ed
 exact zq2
@[go_sem] noncomputable def ib:List SV->Option Con:=λl=>(fq l)
def lN:P1 Tryz.prog 225 ib:=ia
def aT (s_:List bn):Bool:=(decide ((ed s_)>=0))
@[go_sem] def lA:List SV->Option Con:=(pR .B1 λs_=>(pFn 154 (pE ((pE (.det True (.v (.bool (aT s_)))))))))
variable {p:Prop}
theorem arN(h:p:=by simp only[go_sem,ib];all_goals exact cl):p:=h
theorem k_:P1 Tryz.prog 153 lA:=by
 have hG:=mG (cn [.sl .B1,.o] lN W2) W2;refine fN hG Tryz.f153 [.o] (bM λO=>(oC (am ((am (λE=>?_))))));dsimp only[an]at E;refine⟨nbl rfl,L0,ag _,?_⟩;unfold ae Tryz.f153;try unfold aT
 exact arN
@[go_sem] def eM (d:ah)(l_:List bn)(k_0:Nat)(x4:List (Int×bn)):Unit⊕(List (Int×bn)):=letI q0:=l_.getD k_0 default;(bif(((decide ((k_0:Int) > 0))&&(decide (q0.no<=(l_.getD (Int.toNat (i64.wrap ((k_0:Int) - 1))) default).no))) ||(!(dB d x4 q0)))then .inl ()else .inr (cH .int .B1 x4 (q0.no) q0))
def mR (d:ah)(l_:List bn)(k_0:Nat)(x4:List (Int×bn)):Prop:=letI q0:=i64.wrap ((k_0:Int) - 1);letI q1:=decide ((k_0:Int) > 0);letI q2:=l_.getD k_0 default;((q1=true->(0<=q0/\q0< (l_.length:Int)))/\((q1&&(decide (q2.no<=(l_.getD (Int.toNat q0) default).no)))=false->(nJ d x4 q2)))
def a_ (d:ah)(l_:List bn):Int:=(bif((aw d) !=0)then(aw d)else(bif((decide ((l_.length:Int) > 512)) ||(aT l_))then 2 else(match aj (eM d l_) l_.length 0 ([])with| .inl u0=>250| .inr x4=>0)))
def jZ (d:ah)(l_:List bn):Prop:=(((aw d) !=0)=false->(l_.length<=aN->(((decide ((l_.length:Int) > 512)) ||(aT l_))=false->(l_.length<=aN->okI (eM d l_) (mR d l_) l_.length 0 ([])))))
@[go_sem] def BR:List SV->Option Con:=(pD .al λd=>(pR .B1 λl_=>(pE (.det (jZ d l_) (.v (.int .i64 (a_ d l_)))))))
theorem tX:P1 Tryz.prog 98 BR:=by
 have hG:=mG (cn [.st .al] nI (cn [.sl .B1,.o] k_ (cn [.st .al,.mp .int .B1,.st .B1] BQ W2))) W2;refine fN hG Tryz.f98 [.o] (az λd=>(bM λE=>(am (λY=>?_))));dsimp only[an]at Y;unfold jZ at Y;refine⟨nbl rfl,(λid st=>bif Nat.beq id 0 then some (LCR (ρ:=Unit) (σ:=(List (Int×bn))) 2 [] [0,1] (λV O=>⟨[(1,.rs .B1 E),(2,.ptr 0 0),(5,.os 1),(21,.rs .B1 E),(22,.v (.int .i64 (E.length:Int))),(23,.v (.int .i64 (V:Int)))],[.cells (cellsOf .al d),.mp .int .B1 O none]⟩) (eM d E) (mR d E) E.length ([]) (E.length<=aN) (λ_=>.ret) (λX=>⟨[(4,.v (.int .i64 250))],[.dead,.dead]⟩) st)else none),?_,?_⟩;unfold ae Tryz.f98;simp only[ak,true_and,and_true];refine b_ mixed aJ hG kr (λ_=>rfl) (E.length:Int) rfl fH (λhb0 V O apq W hw hc=>⟨L0,ag _,?_⟩) (λhb0 O hc=>?_);unfold mR at W;try simp only[hw,ak1]at W
 exact bE (jl [0,1]);exact bF (jl [0,1]);unfold ae Tryz.f98;try unfold a_
 exact zq2
@[go_sem] def yn:List SV->Option Con:=pR .B1 λl=>pE (.det (l.length*88<=d8) (.nw .B1 l))
theorem xm:P1 Tryz.prog 281 yn:=by
 refine fW (mG W2 W2) Tryz.f281 [(.tmp 2,.B1)] (bM λl=>am λE=>?_);dsimp only[an]at E;refine⟨nbl rfl,L0,ag _,?_⟩;unfold ae Tryz.f281;simp only[go_sem];intro b O;refine⟨λh=>?_,λ_=>?_⟩;have V:=O h;subst V;rfl;first|exact E|exact⟨E,λ_=>rfl⟩
variable {l0 l1:List Nat}
theorem gw(a0:JL l0)(a1:JL l1)(h:JL l0->JL l1->p:=by intro ja jb;(first|done|(repeat' (first|with_reducible refine And.intro ?_ ?_|((with_reducible show _≠_);first|assumption|omega|(simp_all [cy,ei];done) |grind) |with_reducible intro _)) <;>(first|done|with_reducible exact Empty.elim ‹Empty› |with_reducible assumption|rfl|omega|assumption|decide|exact fk ja|exact fk jb|(simp only[*,cond_true,cond_false,alj,als,go_sem];done) |(simp only[*,cond_true,cond_false,alj,als,go_sem];(repeat' (first|with_reducible refine And.intro ?_ ?_|((with_reducible show _≠_);first|assumption|omega|(simp_all [cy,ei];done) |grind) |with_reducible intro _)) <;>(first|done|assumption|rfl|omega|decide|exact fk ja|exact fk jb|(simp_all [cy,ei];done))) |(simp_all [okI,cy,ei];done) |(simp_all [cy,ei];(first|done|exact fk2 ja|exact fk2 jb)) |exact fk2 ja|exact fk2 jb))):p:=h a0 a1
theorem db(a0:JL l0)(h:JL l0->p:=by intro ja;simp only[go_sem];all_goals exact uM ja):p:=h a0
def bq (x:bn)(known:Int)(hour:Int)(ao8:List (Int×Bool)):Bool:=((((x.kind==4) ||(decide (x.known > known))) ||(decide (x.at_ > hour))) ||(aq .int .bool ao8 x.no))
@[go_sem] def ww:List SV->Option Con:=(pD .B1 λx=>(pX .int λknown=>(pX .int λhour=>(pXM .int .bool λao8=>(pE (.det True (.v (.bool (bq x known hour ao8)))))))))
theorem oH:P1 Tryz.prog 282 ww:=by
 have hG:=mG W2 W2;refine fN hG Tryz.f282 [.o] (az λx=>(gu λknown=>(gu λhour=>(Kn λE=>(am (λO=>?_))))));dsimp only[an]at O;refine⟨nbl rfl,L0,ag _,?_⟩;unfold ae Tryz.f282;try unfold bq
 exact zq2
def dR (a:bn)(b:bn):Int:=(bj a.at_ b.at_)
@[go_sem] def wx:List SV->Option Con:=(pD .B1 λa=>(pD .B1 λb=>(pE (.det True (.v (.int .i64 (dR a b)))))))
theorem oI:P1 Tryz.prog 284 wx:=by
 have hG:=mG (cp eX W2) W2;refine fN hG Tryz.f284 [.o] (az λa=>(az λb=>(am (λE=>?_))));dsimp only[an]at E;refine⟨nbl rfl,L0,ag _,?_⟩;unfold ae Tryz.f284;try unfold dR
 exact zq2
@[go_sem] def eU (s_:List bn)(known:Int)(hour:Int)(ao8:List (Int×Bool))(k_0:Nat)(x4:Unit):Int⊕Unit:=(bif(bq (s_.getD k_0 default) known hour ao8)then .inl (k_0:Int)else .inr ())
def a7 (s_:List bn)(known:Int)(hour:Int)(ao8:List (Int×Bool)):Int:=(match aj (eU s_ known hour ao8) s_.length 0 ()with| .inl u0=>u0| .inr x4=>(-1))
@[go_sem] def gQ:List SV->Option Con:=(pR .B1 λs_=>(pFn 282 (pX .int λknown=>(pX .int λhour=>(pXM .int .bool λao8=>(pE ((pE (.det True (.v (.int .i64 (a7 s_ known hour ao8))))))))))))
theorem lB:P1 Tryz.prog 225 gQ:=by
 have hG:=mG (cn [.st .B1,.o,.o,.o] oH W2) W2;refine fN hG Tryz.f225 [.o] (bM λV=>(oC (gu λknown=>(gu λhour=>(Kn λE=>(am ((am (λhp=>?_)))))))));dsimp only[an]at hp;refine⟨nbl rfl,(λid st=>bif Nat.beq id 0 then some (LCR (ρ:=Int) (σ:=Unit) 0 [] [] (λW X=>⟨[(0,.rs .B1 V),(1,.fn 282 [] [.ep [.v (.int .i64 known)] 0,.ep [.v (.int .i64 hour)] 0,.ep [.rm .int .bool E] 0]),(7,.v (.int .i64 (V.length:Int))),(8,.v (.int .i64 (W:Int)))],[]⟩) (eU V known hour E) pT V.length () (V.length<=aN) (λ_=>.ret) (λO=>⟨[(4,.v (.int .i64 O))],[]⟩) st)else none),?_,?_⟩;unfold ae Tryz.f225;simp only[ak,true_and,and_true];refine b_ mixed aJ hG kr (λ_=>rfl) (V.length:Int) rfl fH (λhb0 W X Y _ hw hc=>⟨L0,ag _,?_⟩) (λhb0 X hc=>?_);exact bE (jl []);exact bF (jl []);unfold ae Tryz.f225;try unfold a7
 exact zq2
@[go_sem] noncomputable def ic:List SV->Option Con:=λl=>(orC (fq l) (gQ l))
def lO:P1 Tryz.prog 225 ic:=(P1.or ia lB)
@[go_sem] def bZ (l_:List bn)(known:Int)(hour:Int)(ao8:List (Int×Bool))(k_0:Nat)(x4:List bn×Int×Int):(Int×List bn)⊕(List bn×Int×Int):=letI q0:=x4.1.getD (Int.toNat x4.2.2) default;letI q1:=i64.wrap (x4.2.2+1);(bif(decide (x4.2.2< (x4.1.length:Int)))then(bif(!(bq q0 known hour ao8))then .inr ((x4.1.set (Int.toNat x4.2.1) q0),(i64.wrap (x4.2.1+1)),q1)else .inr (x4.1,x4.2.1,q1))else .inl (x4.2.1,x4.1))
def cA (l_:List bn)(known:Int)(hour:Int)(ao8:List (Int×Bool))(k_0:Nat)(x4:List bn×Int×Int):Prop:=letI q0:=(x4.1.length:Int);(x4.1.length<=aN->((decide (x4.2.2<q0))=true->((0<=x4.2.2/\x4.2.2<q0)/\((!(bq (x4.1.getD (Int.toNat x4.2.2) default) known hour ao8))=true->(0<=x4.2.1/\x4.2.1<q0)))))
def bw (l_:List bn)(known:Int)(hour:Int)(ao8:List (Int×Bool)):List bn:=letI q0:=a7 l_ known hour ao8;(bif(q0==(-1))then l_ else(match aj (bZ l_ known hour ao8) (l_.length+1) 0 (l_,q0,(i64.wrap (q0+1)))with| .inl u0=>(((wM .B1 u0.2 u0.1 (u0.2.length:Int)).take (Int.toNat u0.1)).drop 0) | .inr x4=>default))
def bH (l_:List bn)(known:Int)(hour:Int)(ao8:List (Int×Bool)):Prop:=letI q0:=a7 l_ known hour ao8;letI q1:=bZ l_ known hour ao8;letI q2:=(l_,q0,(i64.wrap (q0+1)));letI q3:=l_.length+1;((q0==(-1))=false->(okI q1 (cA l_ known hour ao8) q3 0 q2/\(∀ z_,aj q1 q3 0 q2≠ .inr z_)/\(∀ u0,aj q1 q3 0 q2=.inl u0->((0<=u0.1/\u0.1<=(u0.2.length:Int))/\(0<=0/\0<=u0.1/\u0.1<=((wM .B1 u0.2 u0.1 (u0.2.length:Int)).length:Int))))))
noncomputable def ig:List SV->List Ob->Option aoJ:=jf (λx_:(List bn)×Int×Int×(List (Int×Bool)) =>[.os 0,.fn 282 [] [.ptr 1 0,.ptr 2 0,.ptr 3 0]]) (λx_=>[.row .B1 x_.1,.cells [.v (.int .i64 x_.2.1)],.cells [.v (.int .i64 x_.2.2.1)],.cells [.os 4],.mp .int .bool x_.2.2.2 none]) (λx_=>fK (bH x_.1 x_.2.1 x_.2.2.1 x_.2.2.2) (.os 5) [.dead,.cells [.v (.int .i64 x_.2.1)],.cells [.v (.int .i64 x_.2.2.1)],.cells [.os 4],.mp .int .bool x_.2.2.2 none,.row .B1 (bw x_.1 x_.2.1 x_.2.2.1 x_.2.2.2)])
@[go_sem] theorem wy (l_:List bn)(known:Int)(hour:Int)(ao8:List (Int×Bool)){p4_:Option (Nat×Option Tag.int.T)}(arx:p4_=none):ig ([.os 0,.fn (282:Nat) [] [.ptr 1 0,.ptr 2 0,.ptr 3 0]]) ([.row .B1 l_,.cells [.v (.int .i64 known)],.cells [.v (.int .i64 hour)],.cells [.os 4],.mp .int .bool ao8 p4_])=some (fK (bH l_ known hour ao8) (.os 5) [.dead,.cells [.v (.int .i64 known)],.cells [.v (.int .i64 hour)],.cells [.os 4],.mp .int .bool ao8 none,.row .B1 (bw l_ known hour ao8)]):=by
 subst arx;exact fL (A:=λx_:(List bn)×Int×Int×(List (Int×Bool)) =>[.os 0,.fn 282 [] [.ptr 1 0,.ptr 2 0,.ptr 3 0]]) (H:=λx_=>[.row .B1 x_.1,.cells [.v (.int .i64 x_.2.1)],.cells [.v (.int .i64 x_.2.2.1)],.cells [.os 4],.mp .int .bool x_.2.2.2 none]) (K:=λx_=>fK (bH x_.1 x_.2.1 x_.2.2.1 x_.2.2.2) (.os 5) [.dead,.cells [.v (.int .i64 x_.2.1)],.cells [.v (.int .i64 x_.2.2.1)],.cells [.os 4],.mp .int .bool x_.2.2.2 none,.row .B1 (bw x_.1 x_.2.1 x_.2.2.1 x_.2.2.2)]) (x:=(l_,known,hour,ao8))
theorem aru(a0:JL l0)(a1:JL l1)(h:JL l0->JL l1->p:=by intro ja jb;simp only[go_sem,ic];all_goals exact gw ja jb):p:=h a0 a1
theorem lP:aoH Tryz.prog 280 (ig):=by
 have hG:=mG (cn [.sl .B1,.o] lO (cn [.st .B1,.o,.o,.o] oH W2)) W2;refine fR hG Tryz.f280 (λl o con h=>?_);obtain⟨⟨W,known,hour,E⟩,rfl,rfl,rfl⟩:=dV h;clear h;try dsimp only
 refine⟨_,_,_,rfl,λhp=>?_⟩;unfold bH at hp;refine⟨nbl rfl,(λid st=>bif Nat.beq id 0 then some (LCV (ρ:=(Int×List bn)) (σ:=(List bn×Int×Int)) 5 [] [0,1,2,3,4] (λX V=>⟨[(0,.os 0),(1,.fn 282 [] [.ptr 1 0,.ptr 2 0,.ptr 3 0]),(5,.v (.int .i64 V.2.1)),(6,.v (.int .i64 V.2.2))],[.row .B1 V.1,.cells [.v (.int .i64 known)],.cells [.v (.int .i64 hour)],.cells [.os 4],.mp .int .bool E none]⟩) (bZ W known hour E) (cA W known hour E) (W.length+1) (W,(a7 W known hour E),(i64.wrap ((a7 W known hour E)+1))) (λ_=>.normal) (λO=>⟨[(0,.os 0),(5,.v (.int .i64 O.1))],[.row .B1 O.2,.cells [.v (.int .i64 known)],.cells [.v (.int .i64 hour)],.cells [.os 4],.mp .int .bool E none]⟩) st)else none),?_,?_⟩;unfold ae Tryz.f280;simp only[ak,true_and,and_true,and_assoc];refine eW mixed aJ hG kr (λ_=>rfl) λX V Y=>⟨L0,ag _,?_⟩;unfold cA at Y;exact db (jl [0,1,2,3,4]);unfold ae Tryz.f280;try unfold bw
 exact aru (jl [0,1,2,3,4,0]) (jl [0,1,2,3,4,5])
end Go.Sx
end
