/- Part of the proof that the law JudgementSpec returns true and leaves its arguments as they were, for all arguments of bulk at most 1048576 (the Upto form). -/
import Derived.Test.YtnanafpgfihjfaaGreatJ109
import Derived.Test.YtnanafpgfihjfaaGreatJ113
import Derived.Test.YtnanafpgfihjfaaGreatJ110
import Derived.Test.YtnanafpgfihjfaaGreatJ108
import Derived.Test.YtnanafpgfihjfaaGreatJ111
import Derived.Test.YtnanafpgfihjfaaGreatJ112
set_option linter.all false
set_option maxHeartbeats 4000000
set_option maxRecDepth 100000
section
namespace Go.Sx
open Go.RowKit
def Dl (n0:Nat)(h:List Ob):SV→SV
 | .agg l=>.agg (l.map (wY n0 h))
 |s=>wY n0 h s
def Dm (n0:Nat)(h:List Ob):SV→SV
 | .tup l=>.tup (l.map (Dl n0 h))
 |s=>Dl n0 h s
section
variable {F:Nat→Prop}{own:Own}{w:World}{n0:Nat}{h:List Ob}
theorem Hn (hp:Hp F own w h)(s:SV)(v:Value)(hr:Rel F own w s v):Rel F (Dk n0 own) w (Dl n0 h s) v:=by
 cases s with
 |agg l=>
  cases hr with
  |agg h0 h1=>
   refine .agg (by simpa using h0) fun j s hj=>?_;obtain⟨x,hx,rfl⟩:=cn hj;exact Hm hp x _ (h1 j x hx)
 |_=>exact Hm hp _ _ hr
theorem Ho (hp:Hp F own w h)(s:SV)(v:Value)(hr:Rel F own w s v):Rel F (Dk n0 own) w (Dm n0 h s) v:=by
 cases s with
 |tup l=>
  cases hr with
  |tup h0 h1=>
   refine .tup (by simpa using h0) fun j s hj=>?_;obtain⟨x,hx,rfl⟩:=cn hj;exact Hn hp x _ (h1 j x hx)
 |_=>exact Hn hp _ _ hr
theorem Ki (s:SV):PF (Dl n0 h s):=by
 cases s
 case agg l=>exact .agg fun j s hj=>by obtain⟨x,hx,rfl⟩:=cn hj;exact Kh x
 all_goals (unfold Dl;exact Kh _)
theorem QX (s:SV):PF (Dm n0 h s):=by
 cases s
 case tup l=>exact .tup fun j s hj=>by obtain⟨x,hx,rfl⟩:=cn hj;exact Ki x
 all_goals (unfold Dm;exact Ki _)
@[go_sem] theorem YI {l:List SV}:Dm n0 h (.tup l)=.tup (l.map (Dl n0 h)):=(rfl)
@[go_sem] theorem YJ {l:List SV}:Dm n0 h (.agg l)=.agg (l.map (wY n0 h)):=(rfl)
@[go_sem] theorem abk {x:Value}:Dm n0 h (.v x)=.v x:=(rfl)
@[go_sem] theorem YK {l:List SV}:Dl n0 h (.agg l)=.agg (l.map (wY n0 h)):=(rfl)
@[go_sem] theorem abl {x:Value}:Dl n0 h (.v x)=.v x:=(rfl)
@[go_sem] theorem aao {k:Tag}{l:List k.T}:Dl n0 h (.rs k l)=.rs k l:=(rfl)
@[go_sem] theorem aap {id:Nat}:Dl n0 h (.os id)=IT n0 id (an h id):=(rfl)
end
def Fz (pks:List Pk)(n0:Nat)(S:SV)(H:List Ob)(h:List Ob):Option SV→Prop
 |some s=>S=tW pks (Dm n0 h s)∧jo ⟨[],H⟩ n0 ⟨[],h⟩
 |none=>False
def Kj (pks:List Pk)(n0:Nat)(rs:List ResultVar)(ts:Tis)(S:SV)(H:List Ob)(id:Nat)(st:St):Option SV→Prop
 |some s=>C_ (an st.h id)∧lz st.h=false∧Fz pks n0 S H (br st.h id (.cells [s])) (kV (jI ts ⟨st.t,br st.h id (.cells [s])⟩ rs))
 |none=>False
def Kk (RC:Value→Option SV)(pks:List Pk)(n0:Nat)(rs:List ResultVar)(ts:Tis)(S:SV)(H:List Ob)(id:Nat):Ex→St→Prop
 | .exit _,_=>False
 | .normal,st=>Fz pks n0 S H st.h (kV (jI ts st rs))
 | .ret,st=>Fz pks n0 S H st.h (kV (jI ts st rs))
 | .pan x,st=>Kj pks n0 rs ts S H id st (RC x)
section
variable {RC:Value→Option SV}{pks:List Pk}{n0:Nat}{rs:List ResultVar}{ts:Tis}{S s:SV}{H h:List Ob}{id:Nat}{st:St}{x:Value}
@[go_sem] theorem Wj:Fz pks n0 S H h (some s)=(S=tW pks (Dm n0 h s)∧jo ⟨[],H⟩ n0 ⟨[],h⟩):=(rfl)
@[go_sem] theorem T_:Kj pks n0 rs ts S H id st (some s)=(C_ (an st.h id)∧lz st.h=false∧Fz pks n0 S H (br st.h id (.cells [s])) (kV (jI ts ⟨st.t,br st.h id (.cells [s])⟩ rs))):=(rfl)
@[go_sem] theorem QY:Kk RC pks n0 rs ts S H id .normal st=Fz pks n0 S H st.h (kV (jI ts st rs)):=(rfl)
@[go_sem] theorem Wk:Kk RC pks n0 rs ts S H id .ret st=Fz pks n0 S H st.h (kV (jI ts st rs)):=(rfl)
@[go_sem] theorem Wl:Kk RC pks n0 rs ts S H id (.pan x) st=Kj pks n0 rs ts S H id st (RC x):=(rfl)
end
section
variable {P:Program}{ts:Tis}{G:Cons}
theorem Om {g:FuncId}{RC:Value→Option SV}(hrec:GM P g RC)(pks:List Pk)(hm:P.follows .mixedOrders=true)(hts:ts.ok P)(hG:ConsOk P G){f:FuncId}{fn:Func}{c0 c1:Code}{i1 q:Nat}{o1:Oper}{tys:Array TypeId}
  (hf:P.funcs[f]? =some fn) (hb:fn.body=some (.seq c0 (.seq (.region i1 #[o1] false) c1))) (hname:(fn.name== "runtime.NumGoroutine")=false)
  (ho1:o1.dst=none∧o1.op=.defer ⟨.value (.func g),#[.tmp q],tys⟩∧o1.guard=none)
  (hc0:cg fn.ntmps c0=true) (hc1:cg fn.ntmps c1=true) {C:List SV→List Ob→Option HCon}
  (h:∀ l o con,C l o=some con→∃ p S H,con=jp p S H∧H.length=o.length∧(p→l.length≤fn.ntmps∧∃ L L' id,ap P none fn.ntmps L c0∧ap P none fn.ntmps L' c1∧exec ts G L c0 ⟨mg 0 l,o⟩ (fun e st=>e=.normal∧lk q st.t=.ptr id 0∧C_ (an st.h id)∧
   exec ts G L' c1 ⟨st.t,st.h⟩ (Kk RC pks o.length fn.results.toList ts S H id)))):FnOkO P f C:=by
 refine⟨fun l o con _ args w=>?_,fun l o con hcon hpre F own w vs hp0 hvs=>?_⟩
 ·have hn:¬fn.name= "runtime.NumGoroutine":=by simpa using hname
  simp[callFunc,hf,hn,hb]
 ·obtain⟨p,S,H,rfl,hH,h2⟩:=h l o con hcon;obtain⟨hlen,L,L',id,hl,hl',hx⟩:=h2 hpre;have hn0:∀ id hd,own id=some hd→id<o.length:=fun id hd e=>hp0.dom id hd e;refine oD (n:=0) (callsIn_of_wp_marks hf hb trivial ?_);have hr:StRel F { w:=w,own:=own} fn.ntmps own ⟨mg 0 l,o⟩ { tmps:=vs++Array.replicate (fn.ntmps - vs.size) undef,defers:=[]} w:=
   ⟨by have:=hvs.1;simp;omega,Dfr.nil,hp0,Fr.refl { w:=w,own:=own},fun t=>mo hvs _ t⟩
  refine wpIn_seq (wpIn_mono (nk hm hts hG c0 hc0 hl F _ _ hx own _ w hr) ?_);intro e a1 w1 hq;cases e with
  |normal=>
   obtain⟨F1,own1,st1,hF1,hst1,_,hlk,_,hx1⟩:=hq;have hsq:=hst1.slots q;rw[hlk]at hsq;generalize hv:a1.tmps.getD q undef=pv at hsq;cases hsq with
   | @ptr _ _ b hd ho hp=>
   show(Code.seq (.region i1 #[o1] false) c1).wpIn (rd none) 0 P _ a1 w1;have hsz:=hst1.size;refine wpIn_seq (xI ho1 hv ?_);show c1.wpIn (rd none) 0 P _ _ w1;obtain⟨ms,Ds,k0,k1,k2,k3⟩:=hst1.defers;have k0':a1.defers=ms:=by rw[k0];exact List.append_nil _
   let d:Deferred:= { target:=.fn (.func g) #[],args:= #[.pointer (some ⟨b,0,none⟩)]}
   let B:Bs:= { w:=w1,own:=own1,ds:=d::a1.defers}
   have hr2:StRel F1 B fn.ntmps own1 ⟨st1.t,st1.h⟩ { tmps:=a1.tmps,defers:=d::a1.defers} w1:=by
    exact⟨hsz,Dfr.nil,hst1.hp,Fr.refl B,hst1.slots⟩
   have hbd:∀ D∈Ds,¬ ∃ id hd,own1 id=some hd∧D∈hd.bs:=fun D hD ⟨i,hd,e,hm⟩ =>hst1.hp.apart i hd D e hm (k3 D hD).2.1;have fin:∀ F2 own2 st2 (a2:Act) w2,(∀ b,F1 b→F2 b)→StRel F2 B fn.ntmps own2 st2 a2 w2→Fz pks o.length S H st2.h (kV (jI ts st2 fn.results.toList))→
     LeavesInM (rd none) 0 P fn a2.tmps (fun e w'=>∃ r own',(jp p S H).post r∧EO F w own o.length e own' w' ((jp p S H).res r)) a1.defers .returning w2:=by
    intro F2 own2 st2 a2 w2 hF2 hst2 hdone;have hB:StRel F2 { w:=w,own:=own} fn.ntmps own2 st2 { a2 with defers:=[]} w2:=⟨hst2.size,Dfr.nil,hst2.hp,hst1.fr.trans ⟨hst2.fr.ids,hst2.fr.base,hst2.fr.os,hst2.fr.tape,hst2.fr.output,hst2.fr.size,hst2.fr.block⟩,hst2.slots⟩;have hkeep:∀ D∈Ds,w2.heap[D]? =some (.deferred (some [])):=fun D hD=>by
     rw[hst2.fr.block D ⟨nf (k3 D hD).2.2,hbd D hD⟩];exact(k3 D hD).2.2
    rw[k0',←List.append_nil ms];refine uF (by simp) Ds ms w2 k1 k2 hkeep fun w4 hs=>?_;have hst4:=(hB.shut (Ds:=Ds) (fun D hD=>⟨(k3 D hD).1,hF2 D (k3 D hD).2.1,hkeep D hD⟩) hs).less (fun c hc=>hF2 c (hF1 c hc)) rfl;cases hres:kV (jI ts st2 fn.results.toList)with
    |none=>rw[hres]at hdone;exact hdone.elim
    |some s=>
     obtain⟨u,e1,e2⟩:=vj (P:=P) hts hst4 hres;rw[hres]at hdone;obtain⟨hS,js,q3,q4⟩:=hdone;obtain⟨k1,k2,_,_⟩:=B3 q4 hst4.hp hst4.fr hn0 q3;refine⟨u,e1,(),g8 js H own2,trivial,⟨u,rfl,?_⟩,k1,k2,q3⟩;subst hS;exact yQ ((Ho hst4.hp s u e2).over (QX s) fun b hb=>Ol q4.1.2.1 hH hb)
   have hinv:∀ w2:World,(invoke (.fn (.func g) #[]) #[.pointer (some ⟨b,0,none⟩)]).run P w2=.ok (.enter g #[.pointer (some ⟨b,0,none⟩)]) w2:=fun w2=>by simp[invoke,go_sem,hrec.1]
   refine wpIn_mono (nk hm hts hG c1 hc1 hl' F1 _ _ hx1 own1 _ w1 hr2) ?_;have idle:∀ (a':Act) (w':World) F2 own2 st2,(∀ b,F1 b→F2 b)→StRel F2 B fn.ntmps own2 st2 a' w'→Fz pks o.length S H st2.h (kV (jI ts st2 fn.results.toList))→
     LeavesInM (rd none) 0 P fn a'.tmps (fun e w'=>∃ r own',(jp p S H).post r∧EO F w own o.length e own' w' ((jp p S H).res r)) a'.defers .returning w':=by
    intro a' w' F2 own2 st2 hF2 hst2 hdone;refine iZ hst2 (by simp) fun w2 hst3=>?_;refine⟨by simp,.inr ⟨fun h=>(by cases h),.func g,#[],g,#[.pointer (some ⟨b,0,none⟩)],rfl,hinv w2,fun _ _=>trivial,?_⟩⟩;refine(hrec.2.1 ⟨b,0,none⟩ w2).mono ?_;rintro e u' w3 ⟨⟨v,rfl⟩,rfl,rfl⟩;exact fin F2 own2 st2 { a' with defers:=B.ds} _ hF2 hst3 hdone
   intro e a' w' hq;cases e with
   |normal=>obtain⟨F2,own2,st2,h0,h1,h2⟩:=hq;exact idle a' w' F2 own2 st2 h0 h1 h2
   |ret=>obtain⟨F2,own2,st2,h0,h1,h2⟩:=hq;exact idle a' w' F2 own2 st2 h0 h1 h2
   |exit jd=>obtain⟨F2,own2,st2,h0,h1,h2⟩:=hq;exact h2.elim
   |panic ch=>
    obtain⟨x,F2,own2,st2,h0,h1,hm,rfl⟩:=hq;change Kj pks o.length fn.results.toList ts S H id st2 (RC x)at hm;cases m1:RC x with
    |none=>rw[m1]at hm;exact hm.elim
    |some s=>
    rw[m1]at hm;obtain⟨hm2,m4,m3⟩:=hm;obtain⟨y,m2⟩:=Ca hm2;refine iZ h1 (by simp) fun w2 hst3=>?_;refine⟨by simp,.inr ⟨fun h=>(by cases h),.func g,#[],g,#[.pointer (some ⟨b,0,none⟩)],rfl,hinv w2,fun _ _=>trivial,?_⟩⟩;obtain⟨hd2,e2,l2⟩:=hst3.fr.ids id hd ho;refine(hrec.2.2 x s m1 F2 own2 w2 st2.h id hd2 b y m4 hst3.hp m2 e2 (l2.1.trans hp)).mono ?_;rintro e u' w3 ⟨⟨v,rfl⟩,rfl,own3,q1,q2⟩;exact fin F2 own3 ⟨st2.t,_⟩ { a' with defers:=B.ds} w3 h0 (hst3.moved q1 q2) m3
   |_=>exact hq.elim
  |ret=>obtain⟨F1,own,st,h0,h1,h2,_⟩:=hq;cases h2
  |exit jd=>obtain⟨F1,own,st,h0,h1,h2,_⟩:=hq;cases h2
  |panic ch=>obtain⟨x,F1,own,st,h0,h1,⟨h2,_⟩,_⟩:=hq;cases h2
  |_=>exact hq.elim
end
end Go.Sx
end
section
namespace Go.Sx
open Go.Proofs
open IntKind (i64)
@[go_sem] noncomputable def FA:List SV→Option Con:=(pQ (.v (.slice none 0 0)) (pE (.det True (.v (.slice none 0 0)))))
theorem On:FnOk Tryz.prog 65 FA:=by
 have hG:ConsOk Tryz.prog (mkG [] []):=aq cg0 cg0;refine ax [.o] mixed ak hG (fn:=Tryz.f65) (c:=aa Tryz.f65) kr kr kr kr (T3 (ai (fun hp=>?_)));dsimp only[ar]at hp;refine⟨nbl rfl,L0,ah _,?_⟩
 ·unfold aa Tryz.f65;exact zq1
@[go_sem] def lL (sides:List Int)(a1:Suit)(k_0:Nat)(s_0:List Int):Empty⊕(List Int):=(bif((sides.getD (Int.toNat (a1.facts.getD k_0 (0:Int))) (0:Int)) ==1)then .inr (s_0++([(a1.facts.getD k_0 (0:Int))]))else .inr s_0)
def fF (sides:List Int)(a1:Suit)(k_0:Nat)(s_0:List Int):Prop:=((0≤(a1.facts.getD k_0 (0:Int))∧(a1.facts.getD k_0 (0:Int)) < (sides.length:Int))∧(((sides.getD (Int.toNat (a1.facts.getD k_0 (0:Int))) (0:Int)) ==1)=true→((s_0++([(a1.facts.getD k_0 (0:Int))])).length*8≤dC)))
@[go_sem] def lM (sides:List Int)(a1:Suit)(k_1:Nat)(s_1:List Int):Empty⊕(List Int):=(bif((sides.getD (Int.toNat (a1.facts.getD k_1 (0:Int))) (0:Int)) ==0)then .inr (s_1++([(a1.facts.getD k_1 (0:Int))]))else .inr s_1)
def fG (sides:List Int)(a1:Suit)(k_1:Nat)(s_1:List Int):Prop:=((0≤(a1.facts.getD k_1 (0:Int))∧(a1.facts.getD k_1 (0:Int)) < (sides.length:Int))∧(((sides.getD (Int.toNat (a1.facts.getD k_1 (0:Int))) (0:Int)) ==0)=true→((s_1++([(a1.facts.getD k_1 (0:Int))])).length*8≤dC)))
@[go_sem] def lN (sides:List Int)(a1:Suit)(k_2:Nat)(s_2:List Int):Empty⊕(List Int):=(bif((sides.getD (Int.toNat (a1.facts.getD k_2 (0:Int))) (0:Int)) ==1)then .inr (s_2++([(a1.facts.getD k_2 (0:Int))]))else .inr s_2)
def fH (sides:List Int)(a1:Suit)(k_2:Nat)(s_2:List Int):Prop:=((0≤(a1.facts.getD k_2 (0:Int))∧(a1.facts.getD k_2 (0:Int)) < (sides.length:Int))∧(((sides.getD (Int.toNat (a1.facts.getD k_2 (0:Int))) (0:Int)) ==1)=true→((s_2++([(a1.facts.getD k_2 (0:Int))])).length*8≤dC)))
@[go_sem] def lO (sides:List Int)(a1:Suit)(k_3:Nat)(s_3:List Int):Empty⊕(List Int):=(bif((sides.getD (Int.toNat (a1.facts.getD k_3 (0:Int))) (0:Int)) ==0)then .inr (s_3++([(a1.facts.getD k_3 (0:Int))]))else .inr s_3)
def fI (sides:List Int)(a1:Suit)(k_3:Nat)(s_3:List Int):Prop:=((0≤(a1.facts.getD k_3 (0:Int))∧(a1.facts.getD k_3 (0:Int)) < (sides.length:Int))∧(((sides.getD (Int.toNat (a1.facts.getD k_3 (0:Int))) (0:Int)) ==0)=true→((s_3++([(a1.facts.getD k_3 (0:Int))])).length*8≤dC)))
def bi (sides:List Int)(a1:Suit)(cs:List Case):Case×Int:=(bif((dB ({ sides:=sides,cases:=cs}:Cases)) !=0)then(({ no:=0,hour:=0,winner:=0,facts:=[],reason:=[]}:Case),(dB ({ sides:=sides,cases:=cs}:Cases)))else(bif((gV a1.plea) !=0)then(({ no:=0,hour:=0,winner:=0,facts:=[],reason:=[]}:Case),(gV a1.plea))else(bif(aw ((ba a1.plea a1.question).2==0) ((ba a1.plea a1.question).2))then(bif(aw ((am ({ sides:=sides,cases:=cs}:Cases) a1.facts 0).2.2==0) ((am ({ sides:=sides,cases:=cs}:Cases) a1.facts 0).2.2))then(bif(aw ((aI a1.no 0 1048576)&&(aI a1.hour 0 4096)) 520)then(bif(decide ((cs.length:Int) > 0))then(bif(aw ((decide (a1.no > (cs.getD (Int.toNat (i64.wrap ((cs.length:Int) - 1))) (default:Case)).no))&&(decide (a1.hour≥(cs.getD (Int.toNat (i64.wrap ((cs.length:Int) - 1))) (default:Case)).hour))) 520)then(bif((!(am ({ sides:=sides,cases:=cs}:Cases) a1.facts 0).2.1)&&((am ({ sides:=sides,cases:=cs}:Cases) a1.facts 1).2.1||((ba a1.plea a1.question).1 !=1)))then(match ay (lL sides a1) a1.facts.length 0 ([])with| .inl x=>x.elim| .inr s_0=>(({ no:=a1.no,hour:=a1.hour,winner:=1,facts:=a1.facts,reason:=s_0}:Case),0))else(match ay (lM sides a1) a1.facts.length 0 ([])with| .inl x=>x.elim| .inr s_1=>(({ no:=a1.no,hour:=a1.hour,winner:=0,facts:=a1.facts,reason:=s_1}:Case),0)))else(({ no:=0,hour:=0,winner:=0,facts:=[],reason:=[]}:Case),520))else(bif((!(am ({ sides:=sides,cases:=cs}:Cases) a1.facts 0).2.1)&&((am ({ sides:=sides,cases:=cs}:Cases) a1.facts 1).2.1||((ba a1.plea a1.question).1 !=1)))then(match ay (lN sides a1) a1.facts.length 0 ([])with| .inl x=>x.elim| .inr s_2=>(({ no:=a1.no,hour:=a1.hour,winner:=1,facts:=a1.facts,reason:=s_2}:Case),0))else(match ay (lO sides a1) a1.facts.length 0 ([])with| .inl x=>x.elim| .inr s_3=>(({ no:=a1.no,hour:=a1.hour,winner:=0,facts:=a1.facts,reason:=s_3}:Case),0))))else(({ no:=0,hour:=0,winner:=0,facts:=[],reason:=[]}:Case),520))else(({ no:=0,hour:=0,winner:=0,facts:=[],reason:=[]}:Case),((am ({ sides:=sides,cases:=cs}:Cases) a1.facts 0).2.2)))else(({ no:=0,hour:=0,winner:=0,facts:=[],reason:=[]}:Case),((ba a1.plea a1.question).2)))))
def eS (sides:List Int)(a1:Suit)(cs:List Case):Prop:=((fC ({ sides:=sides,cases:=cs}:Cases))∧(((dB ({ sides:=sides,cases:=cs}:Cases)) !=0)=false→((jw a1.plea)∧(((gV a1.plea) !=0)=false→((kc a1.plea a1.question)∧((aw ((ba a1.plea a1.question).2==0) ((ba a1.plea a1.question).2))=true→((eN ({ sides:=sides,cases:=cs}:Cases) a1.facts 0)∧((aw ((am ({ sides:=sides,cases:=cs}:Cases) a1.facts 0).2.2==0) ((am ({ sides:=sides,cases:=cs}:Cases) a1.facts 0).2.2))=true→((eN ({ sides:=sides,cases:=cs}:Cases) a1.facts 1)∧((aw ((aI a1.no 0 1048576)&&(aI a1.hour 0 4096)) 520)=true→(cs.length≤aJ→(((decide ((cs.length:Int) > 0))=true→((0≤(i64.wrap ((cs.length:Int) - 1))∧(i64.wrap ((cs.length:Int) - 1)) < (cs.length:Int))∧(((decide (a1.no > (cs.getD (Int.toNat (i64.wrap ((cs.length:Int) - 1))) (default:Case)).no))=true→(0≤(i64.wrap ((cs.length:Int) - 1))∧(i64.wrap ((cs.length:Int) - 1)) < (cs.length:Int)))∧((aw ((decide (a1.no > (cs.getD (Int.toNat (i64.wrap ((cs.length:Int) - 1))) (default:Case)).no))&&(decide (a1.hour≥(cs.getD (Int.toNat (i64.wrap ((cs.length:Int) - 1))) (default:Case)).hour))) 520)=true→((((!(am ({ sides:=sides,cases:=cs}:Cases) a1.facts 0).2.1)&&((am ({ sides:=sides,cases:=cs}:Cases) a1.facts 1).2.1||((ba a1.plea a1.question).1 !=1)))=true→(a1.facts.length≤aJ→okI (lL sides a1) (fF sides a1) a1.facts.length 0 ([])))∧(((!(am ({ sides:=sides,cases:=cs}:Cases) a1.facts 0).2.1)&&((am ({ sides:=sides,cases:=cs}:Cases) a1.facts 1).2.1||((ba a1.plea a1.question).1 !=1)))=false→(a1.facts.length≤aJ→okI (lM sides a1) (fG sides a1) a1.facts.length 0 ([]))))))))∧((decide ((cs.length:Int) > 0))=false→((((!(am ({ sides:=sides,cases:=cs}:Cases) a1.facts 0).2.1)&&((am ({ sides:=sides,cases:=cs}:Cases) a1.facts 1).2.1||((ba a1.plea a1.question).1 !=1)))=true→(a1.facts.length≤aJ→okI (lN sides a1) (fH sides a1) a1.facts.length 0 ([])))∧(((!(am ({ sides:=sides,cases:=cs}:Cases) a1.facts 0).2.1)&&((am ({ sides:=sides,cases:=cs}:Cases) a1.facts 1).2.1||((ba a1.plea a1.question).1 !=1)))=false→(a1.facts.length≤aJ→okI (lO sides a1) (fI sides a1) a1.facts.length 0 ([])))))))))))))))))
noncomputable def mT:List SV→List Ob→Option HCon:=qp (fun x_:(List Int)×Suit×(List Case) =>[.agg [.rs .int x_.1,.os 0],.agg (cellsOf .suit x_.2.1)]) (fun x_=>[.row .case x_.2.2]) (fun x_=>jp (eS x_.1 x_.2.1 x_.2.2) (.tup [.agg (cellsOf .case ((bi x_.1 x_.2.1 x_.2.2).1)),.v (.int .i64 ((bi x_.1 x_.2.1 x_.2.2).2))]) [.row .case x_.2.2])
@[go_sem] theorem Ej (sides:List Int)(a1:Suit)(cs:List Case):mT ([.agg [.rs .int sides,.os 0],.agg [.v (.int .i64 a1.no),.v (.int .i64 a1.hour),.v (.int .i64 a1.question),.rs .int a1.plea.facts,.rs .clause a1.plea.clauses,.rs .int a1.facts]]) ([.row .case cs])=some (jp (eS sides a1 cs) (.tup [.agg (cellsOf .case ((bi sides a1 cs).1)),.v (.int .i64 ((bi sides a1 cs).2))]) [.row .case cs]):=nv (A:=fun x_:(List Int)×Suit×(List Case) =>[.agg [.rs .int x_.1,.os 0],.agg (cellsOf .suit x_.2.1)]) (H:=fun x_=>[.row .case x_.2.2]) (K:=fun x_=>jp (eS x_.1 x_.2.1 x_.2.2) (.tup [.agg (cellsOf .case ((bi x_.1 x_.2.1 x_.2.2).1)),.v (.int .i64 ((bi x_.1 x_.2.1 x_.2.2).2))]) [.row .case x_.2.2]) (x:=(sides,a1,cs))
theorem Kl {l0:List Nat}(a0:JL l0){p:Prop}(h:JL l0→p:=by intro ja;simp only[go_sem,Nat.reduceBEq,Nat.reduceLeDiff,Nat.reduceLT,decide_true,Nat.reduceAdd,Nat.reduceSub,Nat.reduceMul,Int.reduceLE,Int.reduceLT,Int.reduceToNat,Int.reduceNeg,reduceCtorEq,hs0,hs1,qf,oG,RCJ];all_goals exact kX ja):p:=h a0
theorem v7:FnOkO Tryz.prog 24 mT:=by
 have hG:ConsOk Tryz.prog (mkG [(34,fun l=>oN (a7 [.st .cases,.sl .int,.o] l)),(35,fun l=>tl (a7 [.st .plea,.o] l)),(52,f7),(58,jO),(64,fun l=>kI (a7 [.st .cases] l)),(67,fun l=>qP (a7 [.st .plea] l))] []):=aq (cgc (sf.norm [.st .cases,.sl .int,.o]) (cgc (vR.norm [.st .plea,.o]) (cgc g9 (cgc lW (cgc (nO.norm [.st .cases]) (cgc (tf.norm [.st .plea]) cg0)))))) cg0;refine Om E8 [.st .case,.o] mixed ak hG (fn:=Tryz.f24) (c0:=qf (aa Tryz.f24)) (c1:=oG (oG (aa Tryz.f24))) (i1:=PI (qf (oG (aa Tryz.f24)))) (o1:=M0 0 (qf (oG (aa Tryz.f24)))) (q:=5) (tys:= #[104]) kr kr kr (by refine⟨?_,?_,?_⟩ <;>kernel_rfl) kr kr fun l o con h=>?_;obtain⟨⟨sides,a1,cs⟩,rfl,rfl,rfl⟩:=kH h;clear h;try dsimp only
 refine⟨_,_,_,rfl,rfl,fun hp=>?_⟩;unfold eS at hp;rcases Bool.eq_false_or_eq_true (decide ((cs.length:Int) > 0))with hs0|hs0 <;>rcases Bool.eq_false_or_eq_true ((!(am ({ sides:=sides,cases:=cs}:Cases) a1.facts 0).2.1)&&((am ({ sides:=sides,cases:=cs}:Cases) a1.facts 1).2.1||((ba a1.plea a1.question).1 !=1)))with hs1|hs1
 ·have hsp:True:=trivial;refine⟨nbl rfl,L0,(fun id st=>bif Nat.beq id 0 then some (LCR (ρ:=Empty) (σ:=(List Int)) 5 [.cell 3 4 (.row .int ([]))] [0,1,2,3,4,5] (fun k_0 s_0=>⟨[(2,.ptr 1 0),(4,.ptr 3 0),(5,.ptr 4 0),(115,.rs .int a1.facts),(116,.v (.int .i64 (a1.facts.length:Int))),(117,.v (.int .i64 (k_0:Int)))],[.row .case cs,.cells [.rs .int sides,.os 0],.dead,.cells [.v (.int .i64 a1.no),.v (.int .i64 a1.hour),.v (.int .i64 1),.rs .int a1.facts,.os 5],.cells [.v (.int .i64 ((am ({ sides:=sides,cases:=cs}:Cases) a1.facts 0).2.2))],.row .int s_0]⟩) (lL sides a1) (fF sides a1) a1.facts.length ([]) (a1.facts.length≤aJ) ((·.elim)) ((·.elim)) st)else none),4,?_,?_,?_⟩
  ·unfold aa Tryz.f24;simp only[qf,ap,and_self,true_and,and_true]
  ·unfold aa Tryz.f24;simp only[oG];simp only[ap,true_and,and_true]
   ·refine bf mixed ak hG kr (fun _=>rfl) (a1.facts.length:Int) rfl fD (fun hb0 k_0 s_0 hlt0 hq0 hw hc=>⟨L0,ah _,?_⟩) (fun hb0 s_0 hc=>?_)
    ·unfold fF at hq0;try simp only[hw,Int.toNat_natCast]at hq0
     exact kZ (jl [0,1,2,3,4,7]) (jl [0,1,2,3,4,5])
    ·exact jN (jl [0,1,2,3,4,7]) (jl [0,1,2,3,4,5])
  ·unfold aa Tryz.f24;try unfold bi
   exact Kl (jl [0])
 ·have hsp:True:=trivial;refine⟨nbl rfl,L0,(fun id st=>bif Nat.beq id 0 then some (LCR (ρ:=Empty) (σ:=(List Int)) 5 [.cell 3 4 (.row .int ([]))] [0,1,2,3,4,5] (fun k_1 s_1=>⟨[(2,.ptr 1 0),(4,.ptr 3 0),(5,.ptr 4 0),(115,.rs .int a1.facts),(116,.v (.int .i64 (a1.facts.length:Int))),(117,.v (.int .i64 (k_1:Int)))],[.row .case cs,.cells [.rs .int sides,.os 0],.dead,.cells [.v (.int .i64 a1.no),.v (.int .i64 a1.hour),.v (.int .i64 0),.rs .int a1.facts,.os 5],.cells [.v (.int .i64 ((am ({ sides:=sides,cases:=cs}:Cases) a1.facts 0).2.2))],.row .int s_1]⟩) (lM sides a1) (fG sides a1) a1.facts.length ([]) (a1.facts.length≤aJ) ((·.elim)) ((·.elim)) st)else none),4,?_,?_,?_⟩
  ·unfold aa Tryz.f24;simp only[qf,ap,and_self,true_and,and_true]
  ·unfold aa Tryz.f24;simp only[oG];simp only[ap,true_and,and_true]
   ·refine bf mixed ak hG kr (fun _=>rfl) (a1.facts.length:Int) rfl fD (fun hb1 k_1 s_1 hlt1 hq1 hw hc=>⟨L0,ah _,?_⟩) (fun hb1 s_1 hc=>?_)
    ·unfold fG at hq1;try simp only[hw,Int.toNat_natCast]at hq1
     exact kZ (jl [0,1,2,3,4,7]) (jl [0,1,2,3,4,5])
    ·exact jN (jl [0,1,2,3,4,7]) (jl [0,1,2,3,4,5])
  ·unfold aa Tryz.f24;try unfold bi
   exact Kl (jl [0])
 ·have hsp:True:=trivial;refine⟨nbl rfl,L0,(fun id st=>bif Nat.beq id 0 then some (LCR (ρ:=Empty) (σ:=(List Int)) 5 [.cell 3 4 (.row .int ([]))] [0,1,2,3,4,5] (fun k_2 s_2=>⟨[(2,.ptr 1 0),(4,.ptr 3 0),(5,.ptr 4 0),(115,.rs .int a1.facts),(116,.v (.int .i64 (a1.facts.length:Int))),(117,.v (.int .i64 (k_2:Int)))],[.row .case cs,.cells [.rs .int sides,.os 0],.dead,.cells [.v (.int .i64 a1.no),.v (.int .i64 a1.hour),.v (.int .i64 1),.rs .int a1.facts,.os 5],.cells [.v (.int .i64 ((am ({ sides:=sides,cases:=cs}:Cases) a1.facts 0).2.2))],.row .int s_2]⟩) (lN sides a1) (fH sides a1) a1.facts.length ([]) (a1.facts.length≤aJ) ((·.elim)) ((·.elim)) st)else none),4,?_,?_,?_⟩
  ·unfold aa Tryz.f24;simp only[qf,ap,and_self,true_and,and_true]
  ·unfold aa Tryz.f24;simp only[oG];simp only[ap,true_and,and_true]
   ·refine bf mixed ak hG kr (fun _=>rfl) (a1.facts.length:Int) rfl fD (fun hb2 k_2 s_2 hlt2 hq2 hw hc=>⟨L0,ah _,?_⟩) (fun hb2 s_2 hc=>?_)
    ·unfold fH at hq2;try simp only[hw,Int.toNat_natCast]at hq2
     exact kZ (jl [0,1,2,3,4,7]) (jl [0,1,2,3,4,5])
    ·exact jN (jl [0,1,2,3,4,7]) (jl [0,1,2,3,4,5])
  ·unfold aa Tryz.f24;try unfold bi
   exact Kl (jl [0])
 ·have hsp:True:=trivial;refine⟨nbl rfl,L0,(fun id st=>bif Nat.beq id 0 then some (LCR (ρ:=Empty) (σ:=(List Int)) 5 [.cell 3 4 (.row .int ([]))] [0,1,2,3,4,5] (fun k_3 s_3=>⟨[(2,.ptr 1 0),(4,.ptr 3 0),(5,.ptr 4 0),(115,.rs .int a1.facts),(116,.v (.int .i64 (a1.facts.length:Int))),(117,.v (.int .i64 (k_3:Int)))],[.row .case cs,.cells [.rs .int sides,.os 0],.dead,.cells [.v (.int .i64 a1.no),.v (.int .i64 a1.hour),.v (.int .i64 0),.rs .int a1.facts,.os 5],.cells [.v (.int .i64 ((am ({ sides:=sides,cases:=cs}:Cases) a1.facts 0).2.2))],.row .int s_3]⟩) (lO sides a1) (fI sides a1) a1.facts.length ([]) (a1.facts.length≤aJ) ((·.elim)) ((·.elim)) st)else none),4,?_,?_,?_⟩
  ·unfold aa Tryz.f24;simp only[qf,ap,and_self,true_and,and_true]
  ·unfold aa Tryz.f24;simp only[oG];simp only[ap,true_and,and_true]
   ·refine bf mixed ak hG kr (fun _=>rfl) (a1.facts.length:Int) rfl fD (fun hb3 k_3 s_3 hlt3 hq3 hw hc=>⟨L0,ah _,?_⟩) (fun hb3 s_3 hc=>?_)
    ·unfold fI at hq3;try simp only[hw,Int.toNat_natCast]at hq3
     exact kZ (jl [0,1,2,3,4,7]) (jl [0,1,2,3,4,5])
    ·exact jN (jl [0,1,2,3,4,7]) (jl [0,1,2,3,4,5])
  ·unfold aa Tryz.f24;try unfold bi
   exact Kl (jl [0])
@[go_sem] def qz (sides:List Int)(l_:List Suit)(k_0:Nat)(s_0:List Case):Int⊕(List Case):=(bif((bi sides (l_.getD k_0 (default:Suit)) s_0).2 !=0)then .inl ((bi sides (l_.getD k_0 (default:Suit)) s_0).2)else(bif(decide (((s_0++([((bi sides (l_.getD k_0 (default:Suit)) s_0).1)])).length:Int) > 64))then .inl 2 else .inr (s_0++([((bi sides (l_.getD k_0 (default:Suit)) s_0).1)]))))
def iN (sides:List Int)(l_:List Suit)(k_0:Nat)(s_0:List Case):Prop:=((eS sides (l_.getD k_0 (default:Suit)) s_0)∧(((bi sides (l_.getD k_0 (default:Suit)) s_0).2 !=0)=false→((s_0++([((bi sides (l_.getD k_0 (default:Suit)) s_0).1)])).length*72≤dC)))
def qQ (sides:List Int)(l_:List Suit):Cases×Int:=(bif((dB ({ sides:=sides,cases:=[]}:Cases)) !=0)then(({ sides:=[],cases:=[]}:Cases),(dB ({ sides:=sides,cases:=[]}:Cases)))else(match ay (qz sides l_) l_.length 0 ([])with| .inl x_0_0=>(({ sides:=[],cases:=[]}:Cases),x_0_0) | .inr s_0=>(({ sides:=sides,cases:=s_0}:Cases),0)))
def iW (sides:List Int)(l_:List Suit):Prop:=((fC ({ sides:=sides,cases:=[]}:Cases))∧(((dB ({ sides:=sides,cases:=[]}:Cases)) !=0)=false→(l_.length≤aJ→okI (qz sides l_) (iN sides l_) l_.length 0 ([]))))
@[go_sem] def vS:List SV→Option Con:=(pCN fun sides=>(pR .suit fun l_=>(pE (.det (iW sides l_) (.tup [.agg (cellsOf .cases ((qQ sides l_).1)),.v (.int .i64 ((qQ sides l_).2))])))))
theorem YL {p:Prop}(h:p:=by simp only[go_sem,Nat.reduceBEq,Nat.reduceLeDiff,Nat.reduceLT,decide_true,Nat.reduceAdd,Nat.reduceSub,Nat.reduceMul,Int.reduceLE,Int.reduceLT,Int.reduceToNat,Int.reduceNeg,reduceCtorEq,FA];all_goals exact cl):p:=h
theorem Ab:FnOk Tryz.prog 21 vS:=by
 have hG:ConsOk Tryz.prog (mkG [(24,fun l=>tp (a7 [.st .cases,.st .suit] l)),(64,fun l=>kI (a7 [.st .cases] l)),(65,FA)] [(24,mT)]):=aq (cgc (xm.norm [.st .cases,.st .suit]) (cgc (nO.norm [.st .cases]) (cgc On cg0))) (cgc v7 cg0);refine ax [.st .cases,.o] mixed ak hG (fn:=Tryz.f21) (c:=aa Tryz.f21) kr kr kr kr (QV fun sides=>(a8 fun l_=>(ai (fun hp=>?_))));dsimp only[ar]at hp;unfold iW at hp;refine⟨nbl rfl,(fun id st=>bif Nat.beq id 0 then some (LCR (ρ:=Int) (σ:=(List Case)) 2 [.cell 0 1 (.row .case ([]))] [0,1,2] (fun k_0 s_0=>⟨[(2,.ptr 0 0),(4,.ptr 1 0),(20,.rs .suit l_),(21,.v (.int .i64 (l_.length:Int))),(22,.v (.int .i64 (k_0:Int)))],[.cells [.rs .int sides,.os 2],.cells [.v (.slice none 0 0),.v (.slice none 0 0)],.row .case s_0]⟩) (qz sides l_) (iN sides l_) l_.length ([]) (l_.length≤aJ) (fun _=>.ret) (fun x_0_0=>⟨[(4,.ptr 1 0),(5,.v (.int .i64 x_0_0))],[.dead,.cells [.v (.slice none 0 0),.v (.slice none 0 0)],.dead]⟩) st)else none),?_,?_⟩
 ·unfold aa Tryz.f21;simp only[ap,true_and,and_true]
  ·refine bf mixed ak hG kr (fun _=>rfl) (l_.length:Int) rfl fD (fun hb0 k_0 s_0 hlt0 hq0 hw hc=>⟨L0,ah _,?_⟩) (fun hb0 s_0 hc=>?_)
   ·unfold iN at hq0;try simp only[hw,Int.toNat_natCast]at hq0
    exact kZ (jl [0,1,6]) (jl [0,1,2])
   ·exact jN (jl [0,1,6]) (jl [0,1,2])
 ·unfold aa Tryz.f21;try unfold qQ
  exact YL

end Go.Sx
end
section
namespace Go.Sx
open Go.RowKit
def Ua (h:List Ob):Option Con→Option HCon
 |some (.det p s) =>some (jp p (Fy 0 (aK 3 s) (ib 3 0 s)) (h.map fun _=>.dead))
 |_=>none
def eatC (C:List SV→Option Con)(l:List SV)(h:List Ob):Option HCon:=Ua h (C (l.map (fg h 6)))
@[go_sem] theorem aaq {C:List SV→Option Con}{l:List SV}{h:List Ob}:eatC C l h=Ua h (C (l.map (fg h 6))):=(rfl)
@[go_sem] theorem YM {h:List Ob}{p:Prop}{s:SV}:Ua h (some (.det p s))=some (jp p (Fy 0 (aK 3 s) (ib 3 0 s)) (h.map fun _=>.dead)):=(rfl)
section
variable {P:Program}{F:Nat→Prop}{own:Own}{w w':World}
def Oo (own:Own):Own:=fun i=>(own i).map fun hd=>{ hd with bs:=[]}
theorem QZ {b:Nat}(hb:¬F b):¬bS F (Oo own) b:=by
 rintro (hf| ⟨id,hd,e,hm⟩)
 ·exact hb hf
 ·unfold Oo at e;cases h:own id with
  |none=>rw[h]at e;cases e
  |some x=>rw[h]at e;cases e;cases hm
end
def Km (h:List Ob):Option Con→Option HCon
 |some (.det p s) =>some (jp p (Dm 0 (aK 3 s) (ib 3 0 s)) (h.map fun _=>.dead))
 |_=>none
def Hq (C:List SV→Option Con)(l:List SV)(h:List Ob):Option HCon:=Km h (C (l.map (fg h 6)))
@[go_sem] theorem YN {C:List SV→Option Con}{l:List SV}{h:List Ob}:Hq C l h=Km h (C (l.map (fg h 6))):=(rfl)
@[go_sem] theorem Wm {h:List Ob}{p:Prop}{s:SV}:Km h (some (.det p s))=some (jp p (Dm 0 (aK 3 s) (ib 3 0 s)) (h.map fun _=>.dead)):=(rfl)
section
variable {P:Program}{F:Nat→Prop}{own:Own}{w w':World}
theorem FnOk.eat2 {f:FuncId}{C:List SV→Option Con}(hf:FnOk P f C):FnOkO P f (Hq C) where
 enter:=fun l h c e=>by
  unfold Hq at e;cases hc:C (l.map (fg h 6))with
  |none=>rw[hc]at e;cases e
  |some c'=>exact hf.enter _ c' hc
 calls:=fun l h c e hp F own w vs hH hr=>by
  unfold Hq at e;cases hc:C (l.map (fg h 6))with
  |none=>rw[hc]at e;cases e
  |some c'=>
   rw[hc]at e;cases c' with
   |det p s=>
    simp only[Km,Option.some.injEq]at e;subst e;have n0:∀ {F':Nat→Prop} {w1:World},(∀ b,F' b→b<w1.heap.size)→Hp F' cj w1 []:=fun hf=>⟨(fun id hd h=>by cases h),hf,(fun id hd b h=>by cases h),(fun i j hi hj b h=>by cases h),(fun id hd b h=>by cases h),(fun id h=>by cases h)⟩;have hE:∀ {id:Nat} {hd:Hd},Oo own id=some hd→hd.bs=[]∧id<h.length:=fun {id hd} h=>by
     unfold Oo at h;cases ho:own id with
     |none=>rw[ho]at h;cases h
     |some x=>rw[ho]at h;cases h;exact⟨rfl,hH.dom id x ho⟩
    refine(hf.calls _ _ hc hp F w vs hH.foreign ⟨by simpa using hr.1,fun j s hj=>?_⟩).mono ?_
    ·obtain⟨x,hx,rfl⟩:=cn hj;exact ve hH 6 x _ (hr.2 j x hx)
    ·rintro e w' (⟨s',u,own',h1,h2,h3,h4⟩ | ⟨x,hx,_⟩)
     ·cases h1;obtain⟨own2,q1,q2,q3,q4⟩:=zD (n0 hH.foreign) (.inl fun b=>⟨fun h=>.inl h,fun h=>h.elim id fun⟨_,_,h,_⟩ =>by cases h⟩) h4 h3;have q5:=Ho (n0:=0) q1 _ _ q3;refine⟨(),Oo own,trivial,⟨u,h2,?_⟩,?_,?_,by simp⟩
      ·refine q5.carry ⟨fun id hd h=>by simp[Dk]at h,fun b _ hb=>⟨QZ fun hf=>hb (.inl hf),rfl⟩⟩
      ·refine⟨fun id hd h=>by rw[List.length_map];exact(hE h).2,fun b hb=>Nat.lt_of_lt_of_le (hH.foreign b hb) h4.size,fun id hd b h hm=>?_,fun i j hi hj b h _ hm=>?_,fun id hd b h hm=>?_,fun id hd=>?_⟩
       ·rw[(hE h).1]at hm;cases hm
       ·rw[(hE h).1]at hm;cases hm
       ·rw[(hE h).1]at hm;cases hm
       ·rw[qD,List.getElem?_map]at hd;cases ho:h[id]? <;>rw[ho]at hd <;>simp[cN]at hd
      ·refine⟨fun id hd h=>?_,fun id hd b h hm=>?_,h4.os,h4.tape,h4.output,h4.size,fun k hk=>h4.block k hk.1⟩
       ·exact⟨{ hd with bs:=[]},by show(own id).map _=_;rw[show own id=some hd from h];rfl,rfl,rfl,rfl⟩
       ·rw[(hE h).1]at hm;cases hm
     ·cases hx
   |_=>cases e
end
end Go.Sx
end
section
namespace Go.Sx
open Go.Proofs
open IntKind (i64)
def mU:=([(eK 0 0 3 4),(eK 1 1 3 4),(eK 2 0 3 1),(eK 0 0 5 4)])
def pN:=([({ no:=0,hour:=0,kind:=1,farm:=0,other:=0,since:=0,to:=0,n:=1,of_:=0}:Judgement)])
def ke:=([({ no:=1,hour:=0,kind:=3,farm:=0,other:=2,since:=0,to:=7,n:=5,of_:=0}:Judgement)])
def mV:=([(eK 0 0 3 3),(eK 0 2 3 1),(eK 1 1 3 4),(eK 2 2 3 4),(eK 0 2 5 4)])
def mW:=(aS cK pN)
def iO:=(bw cK iu ke)
def mX:=(iO.1)
def gf:=([({ no:=1,hour:=3,kind:=2,farm:=0,other:=0,since:=0,to:=4,n:=5,of_:=0}:Judgement),({ no:=2,hour:=4,kind:=4,farm:=1,other:=2,since:=0,to:=0,n:=9,of_:=0}:Judgement)])
def mY:=([({ no:=4,hour:=0,question:=1,plea:=({ facts:=[1],clauses:=[]}:Plea),facts:=[0,1]}:Suit),({ no:=5,hour:=0,question:=2,plea:=({ facts:=[],clauses:=[]}:Plea),facts:=[0]}:Suit)])
def iP:=(qQ ([0,1]) mY)
def gX:=(cB cK gf 4)
def gh:=(gX.1)
def iQ:=((iP.1).cases)
def iR:=(bw cK iu gf)
def mZ:=(iR.1)
def d9:=(gh.length:Int)
def m_:=(gh.getD 2 (0:Int))
def lr:=(gh.getD 1 (0:Int))
def jx:=(gh.getD 0 (0:Int))
def eU:=(iQ.length:Int)
def jy:=(iQ.getD 1 (default:Case))
def fY:=(iQ.getD 0 (default:Case))
def oi:=(mw mX mV)
def lu:=(fY.reason)
def jz:=(lu.length:Int)
def lv:=(lu.getD 0 (0:Int))
def oj:=(mw mZ mU)
def qA:Bool:=(bif(((((iR.2 !=0) ||(iO.2 !=0)) ||(gX.2 !=0)) ||((cB cK ([]) 9).2 !=1)) ||(mW !=530))then false else(bif(!oj)then false else(bif(!oi)then false else(bif((((d9 !=3) ||(jx !=0)) ||(lr !=9)) ||(m_ !=(-9)))then false else(bif(((iP.2 !=0) ||(eU !=2)) ||(jz !=1))then false else((((fY.winner==0)&&(lv==0))&&(jy.winner==0))&&(jy.no==5)))))))
def pO:Prop:=((qK)∧((dw cK iu gf)∧((dw cK iu ke)∧((gZ cK gf 4)∧((gZ cK ([]) 9)∧((((((iR.2 !=0) ||(iO.2 !=0)) ||(gX.2 !=0)) ||((cB cK ([]) 9).2 !=1))=false→(f9 cK pN))∧((((((iR.2 !=0) ||(iO.2 !=0)) ||(gX.2 !=0)) ||((cB cK ([]) 9).2 !=1)) ||(mW !=530))=false→((nr mZ mU)∧((!oj)=false→((nr mX mV)∧((!oi)=false→(gh.length≤aJ→(((d9 !=3)=false→(0≤0∧0<d9))∧((((d9 !=3) ||(jx !=0))=false→(0≤1∧1<d9))∧(((((d9 !=3) ||(jx !=0)) ||(lr !=9))=false→(0≤2∧2<d9))∧(((((d9 !=3) ||(jx !=0)) ||(lr !=9)) ||(m_ !=(-9)))=false→((iW ([0,1]) mY)∧((((iP.2 !=0) ||(eU !=2))=false→(0≤0∧0<eU))∧((((iP.2 !=0) ||(eU !=2)) ||(jz !=1))=false→((0≤0∧0<eU)∧(((fY.winner==0)=true→(0≤0∧0<eU))∧(((fY.winner==0)=true→(0≤0∧0<jz))∧((((fY.winner==0)&&(lv==0))=true→(0≤1∧1<eU))∧((((fY.winner==0)&&(lv==0))&&(jy.winner==0))=true→(0≤1∧1<eU)))))))))))))))))))))))))
@[go_sem] def zl:List SV→Option Con:=(pE (.det (pO) (.v (.bool (qA)))))
theorem Dn:FnOk Tryz.prog 10 zl:=by
 have hG:ConsOk Tryz.prog (mkG [(12,fun l=>nK (a7 [.st .district,.sl .claim,.sl .judgement] l)),(14,fun l=>pw (a7 [.st .district,.sl .judgement,.o] l)),(16,fun l=>je (a7 [.st .district,.sl .judgement] l)),(18,fun l=>vt (a7 [.sl .claim,.sl .claim] l)),(38,xK),(39,xL),(40,tZ)] [(21,Hq (fun l=>vS (a7 [.o,.sl .suit] l)))]):=aq (cgc (rz.norm [.st .district,.sl .claim,.sl .judgement]) (cgc (sY.norm [.st .district,.sl .judgement,.o]) (cgc (kG.norm [.st .district,.sl .judgement]) (cgc (xF.norm [.sl .claim,.sl .claim]) (cgc Cr (cgc Cs (cgc wJ cg0))))))) (cgc (FnOk.eat2 (Ab.norm [.o,.sl .suit])) cg0);refine ax [.o] mixed ak hG (fn:=Tryz.f10) (c:=aa Tryz.f10) kr kr kr kr (ai (fun hp=>?_));dsimp only[ar]at hp;unfold pO at hp;try simp only[mU,pN,ke,mV,mW,iO,mX,gf,mY,iP,gX,gh,iQ,iR,mZ,d9,m_,lr,jx,eU,jy,fY,oi,lu,jz,lv,oj]at hp
 refine⟨nbl rfl,L0,ah _,?_⟩
 ·unfold aa Tryz.f10;try unfold qA
  simp (maxSteps:=1000000) only[go_sem,Nat.reduceBEq,Nat.reduceLeDiff,Nat.reduceLT,decide_true,Nat.reduceAdd,Nat.reduceSub,Nat.reduceMul,Int.reduceLE,Int.reduceLT,Int.reduceToNat,Int.reduceNeg,reduceCtorEq,mU,pN,ke,mV,mW,iO,mX,gf,mY,iP,gX,gh,iQ,iR,mZ,d9,m_,lr,jx,eU,jy,fY,oi,lu,jz,lv,oj];all_goals exact cl
instance decR {ρ σ:Type}{P:σ→Prop}[∀ s,Decidable (P s)]:(x:ρ⊕σ)→Decidable (∀ s,x=.inr s→P s)
 | .inl _=>.isTrue fun _ e=>nomatch e
 | .inr s=>match (inferInstance:Decidable (P s))with
  | .isTrue h=>.isTrue fun _ e=>by cases e;exact h
  | .isFalse h=>.isFalse fun g=>h (g s rfl)
instance decX {ρ σ:Type}{P:ρ→Prop}[∀ s,Decidable (P s)]:(x:ρ⊕σ)→Decidable (∀ s,x=.inl s→P s)
 | .inr _=>.isTrue fun _ e=>nomatch e
 | .inl s=>match (inferInstance:Decidable (P s))with
  | .isTrue h=>.isTrue fun _ e=>by cases e;exact h
  | .isFalse h=>.isFalse fun g=>h (g s rfl)
instance decN {ρ σ:Type}:(x:ρ⊕σ)→Decidable (∀ s,x≠ .inr s)
 | .inl _=>.isTrue fun _ e=>nomatch e
 | .inr s=>.isFalse fun g=>g s rfl
def YO {ρ σ:Type}(step:Nat→σ→ρ⊕σ)(p:Nat→σ→Prop)(D:∀ k s,Decidable (p k s)):(n i:Nat)→(s:σ)→Decidable (okI step p n i s)
 |0,_,_=>.isTrue trivial
 |n+1,i,s=>match D i s with
  | .isFalse h=>.isFalse fun g=>h g.1
  | .isTrue h=>match e:step i s with
   | .inl _=>.isTrue ⟨h,fun s' e'=>by rw[e]at e';cases e'⟩
   | .inr s'=>match YO step p D n (i+1) s' with
    | .isTrue g=>.isTrue ⟨h,fun s'' e'=>by rw[e]at e';cases e';exact g⟩
    | .isFalse g=>.isFalse fun q=>g (q.2 s' e)
def YP {ρ σ τ:Type}(step:τ→σ→ρ⊕σ)(p:τ→σ→Prop)(D:∀ k s,Decidable (p k s)):(l:List τ)→(s:σ)→Decidable (okL step p l s)
 | [],_=>.isTrue trivial
 |x::l,s=>match D x s with
  | .isFalse h=>.isFalse fun g=>h g.1
  | .isTrue h=>match e:step x s with
   | .inl _=>.isTrue ⟨h,fun s' e'=>by rw[e]at e';cases e'⟩
   | .inr s'=>match YP step p D l s' with
    | .isTrue g=>.isTrue ⟨h,fun s'' e'=>by rw[e]at e';cases e';exact g⟩
    | .isFalse g=>.isFalse fun q=>g (q.2 s' e)
instance decI' {ρ σ:Type}{step:Nat→σ→ρ⊕σ}{p:Nat→σ→Prop}[D:∀ k s,Decidable (p k s)]{n i:Nat}{s:σ}:Decidable (okI step p n i s):=YO step p D n i s
instance decL' {ρ σ τ:Type}{step:τ→σ→ρ⊕σ}{p:τ→σ→Prop}[D:∀ k s,Decidable (p k s)]{l:List τ}{s:σ}:Decidable (okL step p l s):=YP step p D l s
instance precedents_read_l0_p_d (a0:Cases)(k_0:Nat)(s_0:Int×Int):Decidable (gP a0 k_0 s_0):=by unfold gP;repeat (first|infer_instance|refine @instDecidableAnd _ _ ?_ ?_|refine @instDecidableForall _ _ ?_ ?_)
instance precedents_of_l0_p_d (l_:List Int)(many:Int)(k_0:Nat)(s_0:Int×Int):Decidable (iH l_ many k_0 s_0):=by unfold iH;repeat (first|infer_instance|refine @instDecidableAnd _ _ ?_ ?_|refine @instDecidableForall _ _ ?_ ?_)
instance precedents_of_p_d (l_:List Int)(many:Int):Decidable (hU l_ many):=by unfold hU;repeat (first|infer_instance|refine @instDecidableAnd _ _ ?_ ?_|refine @instDecidableForall _ _ ?_ ?_)
instance precedents_read_l1_p_d (a0:Cases)(s_0:Int×Int)(k_1:Nat)(s_1:List PrecedentsDecided×Int×Int×Int):Decidable (gQ a0 s_0 k_1 s_1):=by unfold gQ;repeat (first|infer_instance|refine @instDecidableAnd _ _ ?_ ?_|refine @instDecidableForall _ _ ?_ ?_)
instance precedents_read_p_d (a0:Cases):Decidable (g6 a0):=by unfold g6;repeat (first|infer_instance|refine @instDecidableAnd _ _ ?_ ?_|refine @instDecidableForall _ _ ?_ ?_)
instance precedents_Check_p_d (b:Cases):Decidable (fC b):=by unfold fC;repeat (first|infer_instance|refine @instDecidableAnd _ _ ?_ ?_|refine @instDecidableForall _ _ ?_ ?_)
instance pleas_rising_l0_p_d (l_:List Int)(k_0:Nat)(s_0:Unit):Decidable (ji l_ k_0 s_0):=by unfold ji;repeat (first|infer_instance|refine @instDecidableAnd _ _ ?_ ?_|refine @instDecidableForall _ _ ?_ ?_)
instance pleas_rising_p_d (l_:List Int):Decidable (jY l_):=by unfold jY;repeat (first|infer_instance|refine @instDecidableAnd _ _ ?_ ?_|refine @instDecidableForall _ _ ?_ ?_)
instance pleas_Check_l0_p_d (a0:Plea)(k_0:Nat)(s_0:Bool×Int):Decidable (j7 a0 k_0 s_0):=by unfold j7;repeat (first|infer_instance|refine @instDecidableAnd _ _ ?_ ?_|refine @instDecidableForall _ _ ?_ ?_)
instance pleas_strict_p_d (p:Plea):Decidable (iM p):=by unfold iM;repeat (first|infer_instance|refine @instDecidableAnd _ _ ?_ ?_|refine @instDecidableForall _ _ ?_ ?_)
theorem Hr {ρ σ:Type}{step:Nat→σ→ρ⊕σ}{p q:Nat→σ→Prop}(h:∀ k s,p k s→q k s):∀ (n i:Nat) (s:σ),okI step p n i s→okI step q n i s
 |0,_,_,_=>trivial
 |n+1,i,s,g=>⟨h i s g.1,fun s' e=>Hr h n (i+1) s' (g.2 s' e)⟩
def Ub (k_0:Nat)(s_0:List Int×Int):Prop:=(decide (s_0.2≤32))=true→(s_0.2 !=0)=true→aP[s_0.1.length]? =some s_0.2
instance litq_d (k_0:Nat)(s_0:List Int×Int):Decidable (Ub k_0 s_0):=by unfold Ub;infer_instance
theorem YQ:eO ((aP).map CU):=by
 refine⟨Hr (p:=Ub) (fun k s h=>?_) 66 0 _ (of_decide_eq_true kr),of_decide_eq_true kr,fun x e=>?_⟩
 ·intro h1;refine⟨fun h2=>?_,fun h2=>h2⟩;rw[List.getElem?_map,h h1 h2];rfl
 ·rw[List.length_map];unfold aP;rw[e]
instance pleas_literals_1_p_d:Decidable (eO ((aP).map CU)):=.isTrue YQ
instance pleas_Check_p_d (a0:Plea):Decidable (jw a0):=by unfold jw;repeat (first|infer_instance|refine @instDecidableAnd _ _ ?_ ?_|refine @instDecidableForall _ _ ?_ ?_)
instance pleas_court_derive_l1_p_d (facts:List Int)(clauses:List Clause)(strict_:List (Int×Bool))(s_0:List (Int×Int)×List Reason)(z_1:Int)(s_1:List Reason):Decidable (eI facts clauses strict_ s_0 z_1 s_1):=by unfold eI;repeat (first|infer_instance|refine @instDecidableAnd _ _ ?_ ?_|refine @instDecidableForall _ _ ?_ ?_)
instance pleas_court_derive_l0_p_d (facts:List Int)(clauses:List Clause)(strict_:List (Int×Bool))(k_0:Nat)(s_0:List (Int×Int)×List Reason):Decidable (fE facts clauses strict_ k_0 s_0):=by unfold fE;repeat (first|infer_instance|refine @instDecidableAnd _ _ ?_ ?_|refine @instDecidableForall _ _ ?_ ?_)
instance pleas_court_derive_p_d (facts:List Int)(clauses:List Clause)(strict_:List (Int×Bool))(known_:List (Int×Int)):Decidable (eQ facts clauses strict_ known_):=by unfold eQ;repeat (first|infer_instance|refine @instDecidableAnd _ _ ?_ ?_|refine @instDecidableForall _ _ ?_ ?_)
instance pleas_Answer_p_d (p:Plea)(q:Int):Decidable (kc p q):=by unfold kc;repeat (first|infer_instance|refine @instDecidableAnd _ _ ?_ ?_|refine @instDecidableForall _ _ ?_ ?_)
instance precedents_ask_p_d (b:Cases)(l_:List Int)(side:Int):Decidable (jX b l_ side):=by unfold jX;repeat (first|infer_instance|refine @instDecidableAnd _ _ ?_ ?_|refine @instDecidableForall _ _ ?_ ?_)
instance precedents_court_missing_p_d (c:PrecedentsCourt)(x:PrecedentsDecided)(facts:Int):Decidable (eL c x facts):=by unfold eL;repeat (first|infer_instance|refine @instDecidableAnd _ _ ?_ ?_|refine @instDecidableForall _ _ ?_ ?_)
instance precedents_Binds_1_p_d (x:PrecedentsDecided)(side_:Int)(facts_:Int)(c_:PrecedentsCourt):Decidable (gR x side_ facts_ c_):=by unfold gR;repeat (first|infer_instance|refine @instDecidableAnd _ _ ?_ ?_|refine @instDecidableForall _ _ ?_ ?_)
instance precedents_first_precedents_decided_b_l0_p_d (l_:List PrecedentsDecided)(side_:Int)(facts_:Int)(c_:PrecedentsCourt)(k_0:Nat)(s_0:Int):Decidable (bA l_ side_ facts_ c_ k_0 s_0):=by unfold bA;repeat (first|infer_instance|refine @instDecidableAnd _ _ ?_ ?_|refine @instDecidableForall _ _ ?_ ?_)
instance precedents_first_precedents_decided_b_p_d (l_:List PrecedentsDecided)(fr:Int)(side_:Int)(facts_:Int)(c_:PrecedentsCourt):Decidable (bO l_ fr side_ facts_ c_):=by unfold bO;repeat (first|infer_instance|refine @instDecidableAnd _ _ ?_ ?_|refine @instDecidableForall _ _ ?_ ?_)
instance precedents_Binds_p_d (b:Cases)(l_:List Int)(side:Int):Decidable (eN b l_ side):=by unfold eN;repeat (first|infer_instance|refine @instDecidableAnd _ _ ?_ ?_|refine @instDecidableForall _ _ ?_ ?_)
instance judgement_Decide_k_l0_p_d (sides:List Int)(a1:Suit)(k_0:Nat)(s_0:List Int):Decidable (fF sides a1 k_0 s_0):=by unfold fF;repeat (first|infer_instance|refine @instDecidableAnd _ _ ?_ ?_|refine @instDecidableForall _ _ ?_ ?_)
instance judgement_Decide_k_l1_p_d (sides:List Int)(a1:Suit)(k_1:Nat)(s_1:List Int):Decidable (fG sides a1 k_1 s_1):=by unfold fG;repeat (first|infer_instance|refine @instDecidableAnd _ _ ?_ ?_|refine @instDecidableForall _ _ ?_ ?_)
instance judgement_Decide_k_l2_p_d (sides:List Int)(a1:Suit)(k_2:Nat)(s_2:List Int):Decidable (fH sides a1 k_2 s_2):=by unfold fH;repeat (first|infer_instance|refine @instDecidableAnd _ _ ?_ ?_|refine @instDecidableForall _ _ ?_ ?_)
instance judgement_Decide_k_l3_p_d (sides:List Int)(a1:Suit)(k_3:Nat)(s_3:List Int):Decidable (fI sides a1 k_3 s_3):=by unfold fI;repeat (first|infer_instance|refine @instDecidableAnd _ _ ?_ ?_|refine @instDecidableForall _ _ ?_ ?_)
instance judgement_Decide_k_p_d (sides:List Int)(a1:Suit)(cs:List Case):Decidable (eS sides a1 cs):=by unfold eS;repeat (first|infer_instance|refine @instDecidableAnd _ _ ?_ ?_|refine @instDecidableForall _ _ ?_ ?_)
instance judgement_Sit_l0_p_d (sides:List Int)(l_:List Suit)(k_0:Nat)(s_0:List Case):Decidable (iN sides l_ k_0 s_0):=by unfold iN;repeat (first|infer_instance|refine @instDecidableAnd _ _ ?_ ?_|refine @instDecidableForall _ _ ?_ ?_)
instance judgement_Sit_p_d (sides:List Int)(l_:List Suit):Decidable (iW sides l_):=by unfold iW;repeat (first|infer_instance|refine @instDecidableAnd _ _ ?_ ?_|refine @instDecidableForall _ _ ?_ ?_)
theorem IU (a b:List Claim):nr a b:=fun _ _ h=>lT _ _ _ fun j _ _ hj _=>by
 have:(a.length:Int)=b.length:=by simpa using h
 omega
theorem CW {ρ:Type}{step:Nat→Unit→ρ⊕Unit}:∀ (n i:Nat),(∀ j,i≤j→j<i+n→step j ()=.inr ())→ay step n i ()=.inr ()
 |0,_,_=>rfl
 |n+1,i,h=>by
  rw[ay,h i (Nat.le_refl _) (by omega)];exact CW n (i+1) fun j h1 h2=>h j (by omega) (by omega)
theorem Ac (a:List Claim):mw a a=true:=by
 unfold mw;rw[show((a.length:Int) !=(a.length:Int))=false by simp,CW (ρ:=Unit) a.length 0 fun j _ _=>by unfold qI;simp];rfl
theorem Q0 (a b:List Int):sp a b:=fun _ _ h=>lT _ _ _ fun j _ _ hj _=>by
 have:(a.length:Int)=b.length:=by simpa using h
 omega
theorem IV (a:List Int):sV a a=true:=by
 unfold sV;rw[show((a.length:Int) !=(a.length:Int))=false by simp,CW (ρ:=Unit) a.length 0 fun j _ _=>by unfold qL;simp];rfl
theorem zm (d:District)(j:List Judgement):f9 d j:=fun _ _ h _=>lT _ _ _ fun k s _ hk=>by
 rw[Fb]at h;have h:=of_decide_eq_true h;have key:((k:Int) ==0)=false→(0≤(i64.wrap ((k:Int) - 1))∧(i64.wrap ((k:Int) - 1)) < (j.length:Int)):=fun hk0=>by
  have:(k:Int)≠0:=by simpa using hk0
  rw[gG (by omega) (by omega)];omega
 exact fun _=>⟨key,fun h1 _=>key h1⟩
theorem CX (d:District)(j:List Judgement):ln d j:=⟨D8 d,fun hc _ h=>lT _ _ _ fun k s _ hk=>by
 have h:=of_decide_eq_false h;have hf:d.farms.length≤600:=by
  have:eJ d=0:=by simpa using hc
  rw[←wL]at this;exact((rt d).1 this).1.2.1
 have hw:i64.wrap ((d.farms.length:Int) - 1)=(d.farms.length:Int) - 1:=gG (by omega) (by omega);intro _;refine⟨⟨by omega,by omega,by omega⟩,fun _=>?_⟩;have hl:((j.take k).drop 0).length=k:=by simp;omega
 have key:(decide ((((j.take k).drop 0).length:Int) > 0))=true→(0≤(i64.wrap ((((j.take k).drop 0).length:Int) - 1))∧(i64.wrap ((((j.take k).drop 0).length:Int) - 1)) < (((j.take k).drop 0).length:Int)):=fun h0=>by
  have h0:=of_decide_eq_true h0;rw[hl]at h0 ⊢;rw[gG (by omega) (by omega)];omega
 refine⟨fun _=>key,fun _ h0 _=>key h0,fun _ _ _ h1 _ _ h2=>?_⟩;rw[hw]at h1 h2;simp only[Bool.or_eq_false_iff,Bool.not_eq_false',GS,Bool.and_eq_true,decide_eq_true_eq]at h1 h2;exact⟨fun _=>by omega,fun _=>by omega⟩⟩
theorem A8 (d:District)(j:List Judgement)(h:Int)(hj:JR j):gZ d j h∧qO d j h:=by
 have key:cW d j=0→d.farms.length≤600∧∀ k,k<j.length→(j.getD k default).kind=4→(0≤(j.getD k default).farm∧(j.getD k default).farm< (d.farms.length:Int))∧(0≤(j.getD k default).other∧(j.getD k default).other< (d.farms.length:Int)):=fun hc=>by
  have h1:=X6 hc;obtain⟨h2,_,_⟩:=zV hc;rw[←wL]at h2;refine⟨((rt d).1 h2).1.2.1,fun k hk hkd=>?_⟩;have h3:=h1 k hk;have h4:(j.getD k default).of_=0:=Decidable.byContradiction fun e=>by have:=h3.end_ e;omega
  exact⟨h3.farm h4,(h3.other (by omega)).1,(h3.other (by omega)).2.1⟩
 refine⟨⟨zm d j,fun hc _ _=>⟨⟨rfl,by omega,?_⟩,fun _ _=>?_⟩⟩,⟨CX d j,fun hc _ _=>⟨⟨rfl,by omega,?_⟩,fun _=>?_⟩⟩⟩
 ·have hc:aS d j=0:=by simpa using hc
  rw[tO d j hj]at hc;have:=(key hc).1;unfold dC;omega
 ·have hc:aS d j=0:=by simpa using hc
  rw[tO d j hj]at hc;refine E0 (fun _ s=>s.length=d.farms.length) _ _ _ (by simp) fun k s _ hk hs=>⟨fun hg=>?_,fun s' e=>?_⟩
  ·simp only[Bool.and_eq_true,beq_iff_eq]at hg;have:=(key hc).2 k (by omega) hg.1.1;rw[List.length_set,hs];exact⟨this.1,this.1,this.2,this.2⟩
  ·unfold gE at e;rw[Bool.cond_eq_ite]at e;split at e <;>simp only[Sum.inr.injEq]at e <;>subst e
   ·simp[hs]
   ·exact hs
 ·have hc:cW d j=0:=by simpa using hc
  have:=(key hc).1;unfold dC;omega
 ·have hc:cW d j=0:=by simpa using hc
  refine E0 (fun _ s=>s.length=d.farms.length) _ _ _ (by simp) fun k s _ hk hs=>⟨fun _ hg=>?_,fun s' e=>?_⟩
  ·simp only[Bool.and_eq_true,beq_iff_eq]at hg;have:=(key hc).2 k (by omega) hg.1.1;rw[List.length_set,hs];exact⟨this.1,this.1,this.2,this.2⟩
  ·unfold jT at e;rw[Bool.cond_eq_ite]at e;split at e <;>simp only[Sum.inr.injEq]at e <;>subst e
   ·simp[hs]
   ·exact hs
def Oq (d:District)(c:List Claim)(j:List Judgement):List Claim×Int:=bif aS d j !=0 then([],aS d j)else bif co d c !=0 then([],co d c)else bif(decide (((exS j (c.length+1) c).length:Int) > 4096)) ||(exS j (c.length+1) c).any cO then([],2)else(exS j (c.length+1) c,0)
theorem Uc (x:List Claim):bE x=x.any cO:=by
 unfold bE c7;rcases y8 (step:=d5 x) x default cO (fun k _=>rfl)with⟨e,h⟩ | ⟨K,y,T,h1,e,h2,h3⟩
 ·rw[e,List.any_eq_false.2 fun z hz=>by rw[h z hz];simp];rfl
 ·rw[e,List.any_eq_true.2 ⟨y,by rw[h1];simp,h2⟩];exact decide_eq_true (show(K.length:Int)≥0 by omega)
theorem YR (x:List Claim):(match ay (jS x) x.length 0 ()with| .inl _=>(([],2):List Claim×Int) | .inr _=>(x,0))=bif x.any cO then([],2)else(x,0):=by
 have key:∀ (R A:List Claim) (k:Nat),x=A++R→A.length=k→ay (jS x) R.length k ()=bif R.any cO then .inl ()else .inr ():=fun R=>by
  induction R with
  |nil=>exact fun A k _ _=>rfl
  |cons y R ih=>
   intro A k hx hk;have g:x.getD k default=y:=by rw[hx];exact il A y default R hk.symm
   simp only[List.length_cons,ay,jS,g,List.any_cons];cases hy:cO y with
   |true=>
    have:decide (y.litres > 1073741824)=true:=hy;rw[this];rfl
   |false=>
    have:decide (y.litres > 1073741824)=false:=hy;rw[this];exact ih (A++[y]) (k+1) (by rw[hx];simp) (by simp[hk])
 rw[key x [] 0 rfl rfl];cases x.any cO <;>rfl
theorem Ot {d:District}{c:List Claim}{j:List Judgement}(h1:aS d j=0)(hj:JR j)(h2:co d c=0)(hjl:j.length≤20)(hcl:c.length≤300):Given d j c:=by
 obtain⟨a1,_,a3,a4⟩:=CL h2;rw[tO d j hj]at h1;refine⟨fun x hx=>?_,hjl,a3,a4,hcl,((rt d).1 a1).1.2.2.2.1⟩;obtain⟨i,hi,rfl⟩:=List.getElem_of_mem hx;have:=X6 h1 i hi
 rwa[List.getD_eq_getElem?_getD,List.getElem?_eq_getElem hi]at this
theorem Hs {d:District}{c:List Claim}{j:List Judgement}(hj:JR j)(hjl:aS d j=0→j.length≤20)(hcl:co d c=0→c.length≤300):
  (dw d c j∧oy d c j)∧bw d c j=Oq d c j∧fX d c j=Oq d c j:=by
 have run:aS d j=0→co d c=0→(okI (bU c j) (f_ c j) (c.length+1) 0 (c,[])∧ay (bU c j) (c.length+1) 0 (c,[])=.inl ([]++exS j (c.length+1) c))∧
   okI (bp c j) (iE c j) (c.length+1) 0 ([],0)∧ay (bp c j) (c.length+1) 0 ([],0)=.inl ([]++exS j (c.length+1) c):=fun h1 h2=>by
  have g:=Ot h1 hj h2 (hjl h1) (hcl h2);have:=g.cl;exact⟨Hk c (c.length+1) 0 c [] (by omega) g (by simp only[List.length_nil];omega),Ka c g.cl (c.length+1) 0 c [] [] rfl (by omega) g (by simp only[List.length_nil];omega)⟩
 refine⟨⟨⟨zm d j,fun h1=>⟨N0 d c,fun h2=>?_⟩⟩,⟨CX d j,fun h1=>⟨Ls d c,fun h2=>?_⟩⟩⟩,?_,?_⟩
 ·obtain⟨⟨r1,r2⟩,_⟩:=run (by simpa using h1) (by simpa using h2);exact⟨r1,fun z e=>by rw[r2]at e;cases e⟩
 ·rw[←tO d j hj]at h1;rw[←Ee]at h2;obtain⟨_,r1,r2⟩:=run (by simpa using h1) (by simpa using h2);exact⟨r1,fun z e=>by rw[r2]at e;cases e⟩
 ·unfold bw Oq;cases h1:aS d j !=0 with
  |true=>rfl
  |false=>
   simp only[cond_false];cases h2:co d c !=0 with
   |true=>rfl
   |false=>
    simp only[cond_false];obtain⟨⟨_,r2⟩,_⟩:=run (by simpa using h1) (by simpa using h2);rw[r2,List.nil_append];simp only[Uc]
 ·unfold fX Oq;rw[←tO d j hj,←Ee];cases h1:aS d j !=0 with
  |true=>rfl
  |false=>
   simp only[cond_false];cases h2:co d c !=0 with
   |true=>rfl
   |false=>
    simp only[cond_false];obtain⟨_,_,r2⟩:=run (by simpa using h1) (by simpa using h2);rw[r2,List.nil_append];cases hd:decide (((exS j (c.length+1) c).length:Int) > 4096)with
    |true=>simp only[hd,cond_true,Bool.true_or]
    |false=>
     simp only[hd,cond_false,Bool.false_or];exact YR _
end Go.Sx
end
