/- Part of the proof that the law ClaimsEasement returns true and leaves its arguments as they were, for all arguments of bulk at most 1048576 (the Upto form). -/
import Derived.Test.YtgdkdhdlfdcefaaGreatC510
import Derived.Test.YtgdkdhdlfdcefaaGreatC508
import Derived.Shelf.SlSortCmp.NoneTotal
import Derived.Test.YtgdkdhdlfdcefaaGreatC509
import Derived.Shelf.SortM.Plain
import Derived.Shelf.SortM.SortNone
import Derived.Ground.SlgmProg
import Derived.Shelf.SlGeneric
import Derived.Test.YtgdkdhdlfdcefaaGreatProg
import Derived.Ground.SlsfProg
set_option linter.all false
set_option maxHeartbeats 4000000
set_option maxRecDepth 100000
section
namespace Go.Sx
theorem qJ (p:Program)(listen:Bool)(fr:Frame)(callers:List Frame)(dying:Option Dying)(s:Sem Next)(w:World):gLe w (Go.stepG.apply p listen fr callers dying s w):=by
 unfold Go.stepG.apply
 extract_lets go kind
 have hr:∃ r es,(if listen=true then s.runT p w #[]else(s.run p w,#[]))=(r,es)∧w.drawn≤(PV r).drawn:=by
  split
  ·rcases h:s.runT p w #[]with⟨r,es⟩;exact⟨r,es,rfl,mb h⟩
  ·exact⟨_,_,rfl,Bg p s w⟩
 obtain⟨r,es,he,h⟩:=hr;rw[he];dsimp only;refine gLe.after ?_;have hgo:∀ fr w0,w.drawn≤w0.drawn→gLe w (go fr w0):=fun fr w0 h0=>h0;split
 all_goals first|exact h|trivial|exact hgo _ _ h|exact gLe.trans h (vE _ _ _ _ _ _) |exact gLe.trans h (nA _ _ _) |exact gLe.trans h (J1 _ _ _ _ _ _) |skip
 all_goals first|(refine tY (gLe.trans h (nA _ _ _)) ?_;exact h) |(split <;>first|exact h|trivial|exact hgo _ _ h)
theorem ML (p:Program)(listen:Bool)(fr:Frame)(callers:List Frame)(dying:Option Dying)(w:World):gLe w (Go.stepG.oper p listen fr callers dying w):=by
 unfold Go.stepG.oper;split
 ·trivial
 ·split
  ·exact qJ _ _ _ _ _ _ _
  ·exact qJ _ _ _ _ _ _ _
theorem Ge {α:Type}{w:World}{o:Option α}{a:GStep}{f:α→GStep}(h1:gLe w a)(h2:∀ x,gLe w (f x)):gLe w (o.elim a f):=by cases o;exact h1;exact h2 _
theorem MM (p:Program)(main listen:Bool)(fr:Frame)(callers:List Frame)(dying:Option Dying)(w:World):gLe w (Go.stepG.exec p main listen fr callers dying w):=by
 unfold Go.stepG.exec
 extract_lets go to lost leave
 have hgo:∀ fr w0,w.drawn≤w0.drawn→gLe w (go fr w0):=fun fr w0 h0=>h0;have hto:∀ k,gLe w (to k):=fun k=>Nat.le_refl _;have hlost:∀ m,gLe w (lost m):=fun _=>trivial;have hleave:∀ j,gLe w (leave j):=fun j=>by
  show gLe w (match fr.roundOf with|none=>_|some l=>_);split
  ·refine tY (hgo _ _ (Nat.le_refl _)) trivial
  ·rcases h:(Instr.endRound _ j).runT p w #[]with⟨r,es⟩;have h:=mb h;dsimp only;refine gLe.after ?_;split
   ·exact gLe.trans h (qI _ _ _ _ _ _ _)
   ·trivial
 have hgo1:∀ fr,gLe w (go fr w):=fun fr=>Nat.le_refl _
 clear_value to lost leave
 split
 all_goals first|exact hleave _|exact hto _|exact hlost _|trivial|exact Ge (hleave _) hto|exact qJ _ _ _ _ _ _ _|exact Ge (hlost _) (fun _=>qJ _ _ _ _ _ _ _) |skip
 ·split
  ·exact hto _
  ·exact hlost _
 ·rcases h:(Instr.enterLoop fr.fn fr.tmps _ _ _ fr.roundOf).runT p w #[]with⟨r,es⟩;have h:=mb h;dsimp only;refine gLe.after ?_;split
  ·exact gLe.trans h (qJ _ _ _ _ _ _ _)
  ·trivial
 ·rcases h:(Instr.endLoop _).runT p w #[]with⟨r,es⟩;have h:=mb h;dsimp only;refine gLe.after ?_;split
  ·exact hgo _ _ h
  ·exact hgo _ _ h
  ·trivial
 ·refine tY (hto _) ?_;split
  ·rename_i h;exact hgo _ _ (iq h)
  ·trivial
 ·exact tY (ML _ _ _ _ _ _) (hgo1 _)
theorem J2 (p:Program)(main:Bool)(g:Goroutine)(w:World)(listen:Bool):gLe w (Go.stepG p main g w listen):=by
 unfold Go.stepG;obtain⟨fr,callers,st,dying,off⟩:=g;dsimp only;split
 ·exact PX _ _ _ _
 ·exact MM _ _ _ _ _ _ _
 ·exact HH _ _ _ _ _ _
def sLe (w:World):Stepped→Prop
 | .next m=>w.drawn≤m.world.drawn
 | .ended .. =>True
theorem sLe.trans {w w':World}{s:Stepped}(h1:w.drawn≤w'.drawn)(h:sLe w' s):sLe w s:=by cases s <;>first|trivial|exact Nat.le_trans h1 h
theorem Gf {c:Prop}[Decidable c]{w:World}{a b:Stepped}(h1:sLe w a)(h2:sLe w b):sLe w (if c then a else b):=by split <;>assumption
theorem Gg (p:Program)(gs:Array Goroutine)(rest:Rest)(w:World):sLe w (look p gs rest w):=by
 unfold look;split
 ·extract_lets
  refine Gf trivial ?_;split
  ·trivial
  ·extract_lets
   split
   ·rename_i h;have h:=iq h;exact h
   ·trivial
   ·trivial
 ·trivial
theorem Bh {rest:Rest}{cases:Array CommCase}{w w':World}(h:waitingAt rest cases w=some w'):w.drawn≤w'.drawn:=by
 unfold waitingAt at h;split at h
 ·split at h
  ·cases h;exact Nat.le_refl _
  ·cases h
 ·cases h;exact Nat.le_refl _
theorem yg (p:Program)(rest:Rest)(gs:Array Goroutine)(i:Nat)(g:Goroutine)(cases:Array CommCase)(bl:Bool)(shape:CommShape)(w:World):sLe w (communicate p rest gs i g cases bl shape w).1:=by
 unfold communicate
 extract_lets put illMade me other
 have hput:∀ g gs w0 ops,w.drawn≤w0.drawn→sLe w (put g gs w0 ops).1:=fun _ _ _ _ h=>h;split
 ·trivial
 ·split
  ·split
   ·split
    ·rename_i h;exact Bh h
    ·trivial
   ·exact hput _ _ _ _ (Nat.le_refl _)
  ·split
   ·trivial
   ·rename_i h;have hw:=iq h;clear h
    extract_lets r
    split
    ·split
     ·rename_i h2;exact hput _ _ _ _ (Nat.le_trans hw (J0 h2))
     ·trivial
    ·exact hput _ _ _ _ hw
    ·exact hput _ _ _ _ hw
    ·extract_lets
     split
     ·exact hput _ _ _ _ hw
     ·split
      ·rename_i h2;have h3:=iq h2;exact hput _ _ _ _ (Nat.le_trans hw h3)
      ·trivial
    ·exact hput _ _ _ _ hw
    ·exact hput _ _ _ _ hw
    ·trivial
theorem zU (m:Machine)(k:Nat)(t:Timer)(a b:Nat):m.world.drawn≤(retime m k t a b).2.world.drawn:=by
 unfold retime drain;dsimp only
 repeat' split
 all_goals first|exact Nat.le_refl _|skip
 all_goals (simp_all;try omega)
theorem EM {m m':Machine}{op:TimerOp}{v:Value}(h:timerOp m op=.ok (v,m')):m.world.drawn≤m'.world.drawn:=by
 have named:∀ (D:Nat) (m0:Machine) var f,(∀ k t,D≤(f k t).2.world.drawn)→timerOp.named m0 var f=.ok (v,m')→D≤m'.world.drawn:=fun D m0 var f hf h=>by
  unfold timerOp.named at h;split at h
  ·injection h with h;exact Nat.le_trans (hf _ _) (Nat.le_of_eq (congrArg (fun x:Value×Machine=>x.2.world.drawn) h))
  ·cases h
 unfold timerOp at h;split at h
 ·split at h
  ·cases h;exact Nat.le_refl _
  ·split at h
   ·split at h
    ·cases h
    ·cases h;exact Nat.le_refl _
   ·cases h
 ·exact named _ _ _ _ (fun k t=>zU _ _ _ _ _) h
 ·split at h
  ·rename_i m1 ho;have h1:m.world.drawn≤m1.world.drawn:=by
    unfold timerOp.opened at ho;split at ho
    ·split at ho
     ·cases ho;exact Nat.le_refl _
     ·cases ho
    ·cases ho;exact Nat.le_refl _
   exact Nat.le_trans h1 (named m1.world.drawn _ _ _ (fun k t=>zU _ _ _ _ _) h)
  ·cases h
 ·cases h;exact Nat.le_refl _
theorem J3 (p:Program)(m:Machine)(i:Nat)(listen:Bool):sLe m.world (Go.runT p m i listen).1:=by
 unfold Go.runT
 extract_lets rest world
 split
 extract_lets wake fn pos s ops done
 have hs:gLe m.world s:=J2 _ _ _ _ _;have hd:∀ r,(done r).1=r:=fun r=>rfl
 clear_value s done
 split
 all_goals try rw[hd]
 ·trivial
 ·split
  rename_i h;have:=yg p rest ‹_› i ‹_› ‹_› ‹_› ‹_› ‹_›;rw[h]at this;exact sLe.trans hs this
 ·exact hs
 ·exact hs
 ·exact Gf trivial hs
 ·exact hs
 ·exact sLe.trans hs (Gg _ _ _ _)
 ·exact hs
 ·exact hs
 ·split
  ·exact hs
  ·split
   ·rename_i h;simp only[endThrow,dieOf]at h;cases h;exact hs
   ·trivial
  ·trivial
 ·split
  ·rename_i h;exact Nat.le_trans hs (EM h)
  ·exact hs
  ·trivial
  ·trivial
theorem J4 (p:Program)(m:Machine)(k:Nat):sLe m.world (serve p m k):=by
 unfold serve;split
 ·trivial
 ·exact Nat.le_refl _
 ·extract_lets
  split
  ·trivial
  ·exact Nat.le_refl _
def mLe (w:World):Move→Prop
 | .goroutine m _=>w.drawn≤m.world.drawn
 | .machine s _=>sLe w s
theorem mLe.trans {w w':World}{s:Move}(h1:w.drawn≤w'.drawn)(h:mLe w' s):mLe w s:=by
 cases s
 ·exact Nat.le_trans h1 h
 ·exact sLe.trans h1 h
theorem yh (p:Program)(m:Machine):mLe m.world (askOn p m):=by
 unfold askOn
 extract_lets mono rs ds pick
 have hpick:∀ m0:Machine,m.world.drawn≤m0.world.drawn→mLe m.world (pick m0):=fun m0 h0=>by
  show mLe m.world (match (choose (.sched rs.length)).run p m0.world with| .halt _ w=>_| .ok k world=>_);split
  ·trivial
  ·rename_i h;have h1:=iq h;split
   ·exact Nat.le_trans h0 h1
   ·split
    ·trivial
    ·rename_i h2;have h2:=iq h2;exact Nat.le_trans h0 (Nat.le_trans h1 h2)
 clear_value pick rs ds
 split
 ·trivial
 ·rename_i h;have hw:=iq h;clear h
  extract_lets m1
  split
  ·exact sLe.trans hw (J4 p _ _)
  ·cases rs with
   |nil=>
    dsimp only;split
    ·exact hw
    ·split
     ·exact hw
     ·split <;>trivial
   |cons r rs=>
    dsimp only;split
    ·exact hpick _ hw
    ·split
     ·trivial
     ·rename_i h;have h2:=iq h;exact hpick _ (Nat.le_trans hw h2)
     ·rename_i h;have h2:=iq h;exact Nat.le_trans hw h2
     ·rename_i h;have h2:=iq h;exact hpick _ (Nat.le_trans hw h2)
theorem C0 (p:Program)(m:Machine):mLe m.world (ask p m):=by
 unfold ask;split
 ·split
  ·trivial
  ·rename_i h;have hw:=iq h;have:=Gg p m.gs m.rest ‹World›;split
   ·rename_i m2 h2;rw[h2]at this;exact mLe.trans (Nat.le_trans hw this) (yh p _)
   ·rename_i e h2;exact sLe.trans hw this
  ·rename_i h;have hw:=iq h;exact mLe.trans hw (yh p _)
 ·exact yh p m
theorem MN (p:Program)(m:Machine):mLe m.world (move p m):=by
 unfold move;split
 ·split
  ·exact Nat.le_refl _
  ·trivial
 ·split
  ·split
   ·exact Nat.le_refl _
   ·exact C0 p _
  ·exact C0 p m
theorem MO (p:Program)(m:Machine):sLe m.world (step p m):=by
 unfold step stepT;have:=MN p m;split
 ·rename_i h;rw[h]at this;exact sLe.trans this (J3 p _ _ _)
 ·rename_i h;rw[h]at this;exact this
theorem C2 {p:Program}{m m':Machine}(h:Steps p m m'):m.world.drawn≤m'.world.drawn:=by
 obtain⟨n,hn⟩:=h;induction n generalizing m with
 |zero=>simp only[runN,Stepped.next.injEq]at hn;subst hn;exact Nat.le_refl _
 |succ n ih=>
  simp only[runN]at hn;have:=MO p m;cases hs:step p m with
  |next m1=>
   rw[hs]at hn this;exact Nat.le_trans this (ih hn)
  |ended o w=>rw[hs]at hn;cases hn
theorem C3 {P:Program}{f:FuncId}{args:Array Value}{w:World}{R:Ending→World→Prop}(h:Calls P f args w R):Calls P f args w fun e w'=>R e w'∧(e≠ .outgrown→w.drawn≤w'.drawn):=by
 intro cs;obtain⟨e,w',fr,hr,hc,hf,hl⟩:=h cs;refine⟨e,w',fr,⟨hr,fun hne=>?_⟩,hc,hf,hl⟩;cases e with
 |returned v=>exact C2 (p:=P) hc
 |panicked c=>exact C2 (p:=P) hc
 |outgrown=>exact absurd rfl hne
end Go.Sx
end
section
namespace Go.Sx
open Go.Lib Go.Proofs Go.RowKit Go.Shelf Go.Sort
def NT:SV→Value
 | .v x=>x
 |_=>undef
def lM (k:Tag)(x:k.T):List Value:=(cellsOf k x).map NT
def uT (k:Tag):Prop:= ∀ (x:k.T) (s:SV),s∈cellsOf k x→∃ v,s=.v v∧v.oneCell'=true
def srt {α:Type}(cf:α→α→Int)(l:List α):List α:=l.mergeSort fun x y=>!(ltOf cf y x)
def apart {α:Type}(cf:α→α→Int)(l:List α):Prop:= ∀ x∈l,∀ y∈l,ltOf cf x y=false→ltOf cf y x=false→x=y
theorem EN {α:Type}[Inhabited α]{cf:α→α→Int}(hO:SWO (ltOf cf)){l:List α}(h:apart cf l){d':Array α}(hp:PermIn 0 l.toArray.size l.toArray d')(hs:SortedIn (ltOf cf) 0 l.toArray.size d'):d'=(srt cf l).toArray:=by
 obtain⟨hsz,_,hperm⟩:=hp;have e1:d'.extract 0 l.toArray.size=d':=by rw[←hsz];exact Array.extract_size
 rw[e1,Array.extract_size]at hperm;have hperm:d'.toList.Perm l:=by simpa using hperm
 have:d'.toList=srt cf l:=by
  refine List.Perm.eq_of_pairwise (le:=fun x y=>(!ltOf cf y x)=true) ?_ ?_ ?_ (hperm.trans (List.mergeSort_perm _ _).symm)
  ·intro a b ha hb h1 h2;simp only[Bool.not_eq_true']at h1 h2;exact h a (hperm.subset ha) b ((List.mergeSort_perm _ _).subset hb) h2 h1
  ·rw[List.pairwise_iff_getElem];intro i j hi hj hij;have:=hs i j (Nat.zero_le _) hij (by simp only[List.size_toArray]at hsz ⊢;simp only[Array.length_toList]at hj;omega);simp only[Array.length_toList]at hi hj;rw[getElem!_pos d' i hi,getElem!_pos d' j hj]at this;simpa using this
  ·refine List.pairwise_mergeSort (fun a b c h1 h2=>?_) (fun a b=>?_) l
   ·simp only[Bool.not_eq_true']at h1 h2 ⊢;exact hO.ntrans c b a h2 h1
   ·simp only[Bool.or_eq_true,Bool.not_eq_true'];cases h1:ltOf cf b a with
    |false=>exact .inl rfl
    |true=>
     right;cases h2:ltOf cf a b with
     |false=>rfl
     |true=>
      have h3:=hO.trans a b a h2 h1;rw[hO.irrefl]at h3;cases h3
 rw[←this]
section
variable {P:Program}{ρ:Ren}{F:Nat→Prop}{own:Own}{w:World}{k:Tag}
theorem zV (hk:uT k){l:List k.T}{o:Nat}{cs:Array Value}(h:RowAt F own w k l o cs){i j:Nat}(hi:i<l.length)(hj:j<aa k):cs[o+i*aa k+j]? =(lM k l[i])[j]?:=by
 have e1:=List.getElem?_eq_getElem hi;have hlen:j< (cellsOf k l[i]).length:=by rw[aZ];exact hj
 have e2:=List.getElem?_eq_getElem hlen;obtain⟨u,h1,h2⟩:=h i _ e1 j _ e2;obtain⟨v,h3,_⟩:=hk l[i] _ (List.getElem_mem hlen);rw[h1];unfold lM;rw[List.getElem?_map,e2];rw[h3]at h2 ⊢;rw[bU h2];rfl
theorem zW (hk:uT k){l:List k.T}{o:Nat}{cs:Array Value}(h:∀ i j,(hi:i<l.length)→j<aa k→cs[o+i*aa k+j]? =(lM k l[i])[j]?):RowAt F own w k l o cs:=by
 intro i x hi j s hj;obtain⟨hl,rfl⟩:=List.getElem?_eq_some_iff.1 hi;have hlen:=(List.getElem?_eq_some_iff.1 hj).1;rw[aZ]at hlen;have:=h i j hl hlen;unfold lM at this;rw[List.getElem?_map,hj]at this;obtain⟨v,h3,_⟩:=hk _ s (List.mem_of_getElem? hj);subst h3;exact⟨v,this,.v v⟩
theorem MP {w w':World}(hb:Go.RowKit.Below w.heap.size w w')(hd:w.drawn≤w'.drawn):∃ q os,w'=grow (w.drewN q) os:=by
 refine⟨w'.drawn - w.drawn,w'.heap.extract w.heap.size w'.heap.size,?_⟩;obtain⟨h1,h2,h3,h4,h5⟩:=hb;obtain⟨heap,tape,drawn,os,output⟩:=w;obtain⟨heap',tape',drawn',os',output'⟩:=w';simp only at h1 h2 h3 h4 h5 hd;subst h1;subst h2;subst h3;unfold grow World.drewN;simp only[World.mk.injEq,true_and,and_true];refine⟨?_,by omega⟩;apply Array.ext
 ·simp;omega
 ·intro i hi1 hi2;by_cases hi:i<heap.size
  ·rw[Array.getElem_append_left hi];have:=h5 i hi;rw[Array.getElem?_eq_getElem hi1,Array.getElem?_eq_getElem hi]at this;exact Option.some.inj this
  ·rw[Array.getElem_append_right (by omega)];simp only[Array.getElem_extract];congr 1;omega
end
end Go.Sx
end
section
namespace Go.Sx
open Go.Proofs
open IntKind (i64)
def hrs (a b:Int):List Int:=(List.range (b+1 - a).toNat).map fun k:Nat=>a+(k:Int)
theorem MQ {a b:Int}(h:b<a):hrs a b=[]:=by unfold hrs;rw[show(b+1 - a).toNat=0 by omega];rfl
theorem C4 {a b:Int}(h:a≤b+1):hrs a (b+1)=hrs a b++[b+1]:=by
 unfold hrs;rw[show(b+1+1 - a).toNat=(b+1 - a).toNat+1 by omega,List.range_succ,List.map_append,List.map_singleton,show a+(((b+1 - a).toNat:Nat):Int)=b+1 by omega]
theorem Bi {a b x:Int}:x∈hrs a b↔a≤x∧x≤b:=by
 unfold hrs;rw[List.mem_map];constructor
 ·rintro⟨k,hk,rfl⟩;rw[List.mem_range]at hk;omega
 ·rintro⟨h1,h2⟩;exact⟨(x - a).toNat,by rw[List.mem_range];omega,by omega⟩
theorem PY (a b:Int):(hrs a b).Pairwise (· < ·):=by
 unfold hrs;rw[List.pairwise_map];exact List.pairwise_lt_range.imp fun h=>by omega
theorem MR (a b:Int):(hrs a b).length=(b+1 - a).toNat:=by unfold hrs;simp
theorem MS {α β:Type}{R:β→β→Prop}{S:α→α→Prop}{f:α→List β}{l:List α}(h0:l.Pairwise S)(h1:∀ a∈l,(f a).Pairwise R)(h2:∀ a∈l,∀ b∈l,S a b→∀ x∈f a,∀ y∈f b,R x y):(l.flatMap f).Pairwise R:=by
 rw[List.pairwise_flatMap];refine⟨h1,?_⟩;exact h0.imp_of_mem fun {a b} ha hb hs=>h2 a ha b hb hs
theorem HI {α β:Type}{f g:α→List β}{l:List α}(h:∀ a∈l,(f a).Perm (g a)):(l.flatMap f).Perm (l.flatMap g):=by
 induction l with
 |nil=>exact List.Perm.refl _
 |cons a l ih=>
  rw[List.flatMap_cons,List.flatMap_cons];exact(h a (by simp)).append (ih fun b hb=>h b (by simp[hb]))
open Go.Shelf Go.Sort in
theorem EO {α:Type}{cf:α→α→Int}(hO:SWO (ltOf cf)){s m:List α}(hp:s.Perm m)(hm:m.Pairwise fun x y=>cf x y<0):apart cf s∧srt cf s=m:=by
 have e1:∀ x y,ltOf cf x y=true↔cf x y<0:=fun x y=>by unfold ltOf;rw[decide_eq_true_eq]
 have hex:∀ x∈m,∀ y∈m,ltOf cf x y=false→ltOf cf y x=false→x=y:=fun x hx y hy h1 h2=>by
  obtain⟨i,hi,rfl⟩:=List.mem_iff_getElem.1 hx;obtain⟨j,hj,rfl⟩:=List.mem_iff_getElem.1 hy;rw[List.pairwise_iff_getElem]at hm;rcases Nat.lt_trichotomy i j with h|h|h
  ·rw[(e1 _ _).2 (hm i j hi hj h)]at h1;cases h1
  ·subst h;rfl
  ·rw[(e1 _ _).2 (hm j i hj hi h)]at h2;cases h2
 refine⟨fun x hx y hy h1 h2=>hex x (hp.subset hx) y (hp.subset hy) h1 h2,?_⟩;unfold srt;have hq:(s.mergeSort fun x y=>!(ltOf cf y x)).Perm m:=(List.mergeSort_perm _ _).trans hp;refine List.Perm.eq_of_pairwise (le:=fun x y=>(!ltOf cf y x)=true) ?_ ?_ ?_ hq
 ·intro x y hx hy h1 h2;simp only[Bool.not_eq_true']at h1 h2;exact hex x (hq.subset hx) y hy h2 h1
 ·refine List.pairwise_mergeSort ?_ ?_ s
  ·intro a b c h1 h2;simp only[Bool.not_eq_true']at h1 h2 ⊢;exact hO.3 c b a h2 h1
  ·intro a b;simp only[Bool.or_eq_true,Bool.not_eq_true'];cases h1:ltOf cf b a with
   |false=>exact .inl rfl
   |true=>
    right;cases h2:ltOf cf a b with
    |false=>rfl
    |true=>have:=hO.2 _ _ _ h1 h2;rw[hO.1]at this;cases this
 ·refine hm.imp fun {a b} hab=>?_;simp only[Bool.not_eq_true'];cases h2:ltOf cf b a with
  |false=>rfl
  |true=>have:=hO.2 _ _ _ ((e1 _ _).2 hab) h2;rw[hO.1]at this;cases this
def dl (x:Deed)(n:Int)(m_:List (RegisterTitle×Int)):List (RegisterTitle×Int):=(eU .registerTitle .int m_ ({ right:=x.right,farm:=x.to}:RegisterTitle) (i64.wrap ((bF .registerTitle .int m_ ({ right:=x.right,farm:=x.to}:RegisterTitle))+n)))
noncomputable def ir:List SV→List Ob→Option HCon:=gS (fun x_:Deed×Int×(List (RegisterTitle×Int)) =>[.os 0,.agg (cellsOf .deed x_.1),.v (.int .i64 x_.2.1)]) (fun x_=>[.mp .registerTitle .int x_.2.2 none]) (fun x_=>eX True (.tup []) [.mp .registerTitle .int (dl x_.1 x_.2.1 x_.2.2) none])
@[go_sem] theorem zX (x:Deed)(n:Int)(m_:List (RegisterTitle×Int)){p0_:Option (Nat×Option Tag.registerTitle.T)}(hp0_:p0_=none):ir ([.os 0,.agg [.v (.int .i64 x.no),.v (.int .i64 x.kind),.v (.int .i64 x.right),.v (.int .i64 x.since),.v (.int .i64 x.to),.rs .part x.parts,.v (.int .i64 x.of_),.v (.int .i64 x.at_),.v (.int .i64 x.known)],.v (.int .i64 n)]) ([.mp .registerTitle .int m_ p0_])=some (eX True (.tup []) [.mp .registerTitle .int (dl x n m_) none]):=by
 subst hp0_;exact fh (A:=fun x_:Deed×Int×(List (RegisterTitle×Int)) =>[.os 0,.agg (cellsOf .deed x_.1),.v (.int .i64 x_.2.1)]) (H:=fun x_=>[.mp .registerTitle .int x_.2.2 none]) (K:=fun x_=>eX True (.tup []) [.mp .registerTitle .int (dl x_.1 x_.2.1 x_.2.2) none]) (x:=(x,n,m_))
theorem py:FnOkO Tryz.prog 103 (ir):=by
 have hG:ConsOk Tryz.prog (mkG [] []):=ay cg0 cg0;refine fY mixed an hG (fn:=Tryz.f103) (c:=ae Tryz.f103) kr kr kr kr fun l o con h=>?_;obtain⟨⟨x,n,m_⟩,rfl,rfl,rfl⟩:=dP h;clear h;try dsimp only
 refine⟨_,_,_,rfl,fun hp=>?_⟩;refine⟨nbl rfl,L0,?_,?_⟩
 ·unfold ae Tryz.f103;simp only[am,and_self,true_and,and_true]
 ·unfold ae Tryz.f103;try unfold dl
  exact cV (jl [0])
@[go_sem] def bu (x:Deed)(n:Int)(k_0:Nat)(s_0:List (RegisterTitle×Int)×Int):Empty⊕(List (RegisterTitle×Int)×Int):=.inr ((eU .registerTitle .int s_0.1 ({ right:=x.right,farm:=(x.parts.getD k_0 (default:Part)).farm}:RegisterTitle) (i64.wrap ((bF .registerTitle .int s_0.1 ({ right:=x.right,farm:=(x.parts.getD k_0 (default:Part)).farm}:RegisterTitle))+(eI ((x.parts.getD k_0 (default:Part)).share) n).1))),(i64.wrap (s_0.2 - (eI ((x.parts.getD k_0 (default:Part)).share) n).1)))
@[go_sem] def fb (x:Deed)(s_0:List (RegisterTitle×Int)×Int)(k_1:Nat)(s_1:List (RegisterTitle×Int)):Empty⊕(List (RegisterTitle×Int)):=.inr (eU .registerTitle .int s_1 ({ right:=x.right,farm:=(((x.parts.take (Int.toNat s_0.2)).drop 0).getD k_1 (default:Part)).farm}:RegisterTitle) (i64.wrap ((bF .registerTitle .int s_1 ({ right:=x.right,farm:=(((x.parts.take (Int.toNat s_0.2)).drop 0).getD k_1 (default:Part)).farm}:RegisterTitle))+1)))
def ci (x:Deed)(n:Int)(m_:List (RegisterTitle×Int)):List (RegisterTitle×Int):=(match aq (bu x n) x.parts.length 0 (m_,n)with| .inl x=>x.elim| .inr s_0=>(match aq (fb x s_0) (((x.parts.take (Int.toNat s_0.2)).drop 0).length) 0 s_0.1 with| .inl x=>x.elim| .inr s_1=>s_1))
def dJ (x:Deed)(n:Int)(m_:List (RegisterTitle×Int)):Prop:=(x.parts.length≤a7→(∀ s_0,aq (bu x n) x.parts.length 0 (m_,n)=.inr s_0→(0≤0∧0≤s_0.2∧s_0.2≤(x.parts.length:Int))))
noncomputable def gX:List SV→List Ob→Option HCon:=gS (fun x_:Deed×Int×(List (RegisterTitle×Int)) =>[.os 0,.agg (cellsOf .deed x_.1),.v (.int .i64 x_.2.1)]) (fun x_=>[.mp .registerTitle .int x_.2.2 none]) (fun x_=>eX (dJ x_.1 x_.2.1 x_.2.2) (.tup []) [.mp .registerTitle .int (ci x_.1 x_.2.1 x_.2.2) none])
@[go_sem] theorem y9 (x:Deed)(n:Int)(m_:List (RegisterTitle×Int)){p0_:Option (Nat×Option Tag.registerTitle.T)}(hp0_:p0_=none):gX ([.os 0,.agg [.v (.int .i64 x.no),.v (.int .i64 x.kind),.v (.int .i64 x.right),.v (.int .i64 x.since),.v (.int .i64 x.to),.rs .part x.parts,.v (.int .i64 x.of_),.v (.int .i64 x.at_),.v (.int .i64 x.known)],.v (.int .i64 n)]) ([.mp .registerTitle .int m_ p0_])=some (eX (dJ x n m_) (.tup []) [.mp .registerTitle .int (ci x n m_) none]):=by
 subst hp0_;exact fh (A:=fun x_:Deed×Int×(List (RegisterTitle×Int)) =>[.os 0,.agg (cellsOf .deed x_.1),.v (.int .i64 x_.2.1)]) (H:=fun x_=>[.mp .registerTitle .int x_.2.2 none]) (K:=fun x_=>eX (dJ x_.1 x_.2.1 x_.2.2) (.tup []) [.mp .registerTitle .int (ci x_.1 x_.2.1 x_.2.2) none]) (x:=(x,n,m_))
theorem oY:FnOkO Tryz.prog 104 (gX):=by
 have hG:ConsOk Tryz.prog (mkG [(138,rY)] []):=ay (cgc xV cg0) cg0;refine fY mixed an hG (fn:=Tryz.f104) (c:=ae Tryz.f104) kr kr kr kr fun l o con h=>?_;obtain⟨⟨x,n,m_⟩,rfl,rfl,rfl⟩:=dP h;clear h;try dsimp only
 refine⟨_,_,_,rfl,fun hp=>?_⟩;unfold dJ at hp;refine⟨nbl rfl,(fun id st=>bif Nat.beq id 0 then some (LCR (ρ:=Empty) (σ:=(List (RegisterTitle×Int)×Int)) 2 [] [0,1] (fun k_0 s_0=>⟨[(0,.os 0),(2,.v (.int .i64 n)),(4,.ptr 1 0),(6,.v (.int .i64 s_0.2)),(16,.rs .part x.parts),(17,.v (.int .i64 (x.parts.length:Int))),(18,.v (.int .i64 (k_0:Int)))],[.mp .registerTitle .int s_0.1 none,.cells (cellsOf .deed x)]⟩) (bu x n) pT x.parts.length (m_,n) (x.parts.length≤a7) ((·.elim)) ((·.elim)) st)else bif Nat.beq id 2 then some (LCR (ρ:=Empty) (σ:=(List (RegisterTitle×Int))) 2 [] [0,1] (fun k_1 s_1=>⟨[(0,.os 0),(4,.ptr 1 0),(48,.rs .part ((x.parts.take (Int.toNat (eW (aq (bu x n) x.parts.length 0 (m_,n))).2)).drop 0)),(49,.v (.int .i64 (((x.parts.take (Int.toNat (eW (aq (bu x n) x.parts.length 0 (m_,n))).2)).drop 0).length:Int))),(50,.v (.int .i64 (k_1:Int)))],[.mp .registerTitle .int s_1 none,.cells (cellsOf .deed x)]⟩) (fb x (eW (aq (bu x n) x.parts.length 0 (m_,n)))) pT (((x.parts.take (Int.toNat (eW (aq (bu x n) x.parts.length 0 (m_,n))).2)).drop 0).length) ((eW (aq (bu x n) x.parts.length 0 (m_,n))).1) (((x.parts.take (Int.toNat (eW (aq (bu x n) x.parts.length 0 (m_,n))).2)).drop 0).length≤a7) ((·.elim)) ((·.elim)) st)else none),?_,?_⟩
 ·unfold ae Tryz.f104;simp only[am,true_and,and_true,and_assoc];refine⟨?_,?_⟩
  ·refine dg mixed an hG kr (fun _=>rfl) (x.parts.length:Int) rfl iO (fun hb0 k_0 s_0 hlt0 _ hw hc=>⟨L0,ai _,?_⟩) (fun hb0 s_0 hc=>?_)
   ·exact cm (jl [0,1])
   ·exact cn (jl [0,1])
  ·refine dg mixed an hG kr (fun _=>rfl) (((x.parts.take (Int.toNat (eW (aq (bu x n) x.parts.length 0 (m_,n))).2)).drop 0).length:Int) rfl iO (fun hb1 k_1 s_1 hlt1 _ hw hc=>⟨L0,ai _,?_⟩) (fun hb1 s_1 hc=>?_)
   ·exact cm (jl [0,1])
   ·exact cn (jl [0,1])
 ·unfold ae Tryz.f104;try unfold ci
  exact cV (jl [0])
def rC (x:Deed)(n:Int)(m_:List (RegisterTitle×Int)):Unit:=()
noncomputable def gY:List SV→List Ob→Option HCon:=gS (fun x_:Deed×Int×(List (RegisterTitle×Int)) =>[.os 0,.agg (cellsOf .deed x_.1),.v (.int .i64 x_.2.1)]) (fun x_=>[.mp .registerTitle .int x_.2.2 none]) (fun x_=>eX True (.tup []) [.mp .registerTitle .int x_.2.2 none])
@[go_sem] theorem y_ (x:Deed)(n:Int)(m_:List (RegisterTitle×Int)){p0_:Option (Nat×Option Tag.registerTitle.T)}(hp0_:p0_=none):gY ([.os 0,.agg [.v (.int .i64 x.no),.v (.int .i64 x.kind),.v (.int .i64 x.right),.v (.int .i64 x.since),.v (.int .i64 x.to),.rs .part x.parts,.v (.int .i64 x.of_),.v (.int .i64 x.at_),.v (.int .i64 x.known)],.v (.int .i64 n)]) ([.mp .registerTitle .int m_ p0_])=some (eX True (.tup []) [.mp .registerTitle .int m_ none]):=by
 subst hp0_;exact fh (A:=fun x_:Deed×Int×(List (RegisterTitle×Int)) =>[.os 0,.agg (cellsOf .deed x_.1),.v (.int .i64 x_.2.1)]) (H:=fun x_=>[.mp .registerTitle .int x_.2.2 none]) (K:=fun x_=>eX True (.tup []) [.mp .registerTitle .int x_.2.2 none]) (x:=(x,n,m_))
theorem oZ:FnOkO Tryz.prog 105 (gY):=by
 have hG:ConsOk Tryz.prog (mkG [] []):=ay cg0 cg0;refine fY mixed an hG (fn:=Tryz.f105) (c:=ae Tryz.f105) kr kr kr kr fun l o con h=>?_;obtain⟨⟨x,n,m_⟩,rfl,rfl,rfl⟩:=dP h;clear h;try dsimp only
 refine⟨_,_,_,rfl,fun hp=>?_⟩;refine⟨nbl rfl,L0,?_,?_⟩
 ·unfold ae Tryz.f105;simp only[am,and_self,true_and,and_true]
 ·unfold ae Tryz.f105;try unfold rC
  exact cV (jl [0])
end Go.Sx
end
section
namespace Go.Sx
open Go.Lib Go.Proofs Go.RowKit Go.Shelf Go.Sort
open Classical in
noncomputable def kD (k:Tag)(g:FuncId)(caps:List SV)(cf:k.T→k.T→Int):List SV→List Ob→Option HCon:=fun l h=>
 EE k (fun l0=>if l=[.os 0,.fn g [] caps]then some (eX (apart cf l0) (.tup []) [.row k (srt cf l0)])else none) h
@[go_sem] theorem sb {k:Tag}{g:FuncId}{caps:List SV}{cf:k.T→k.T→Int}{l0:List k.T}:kD k g caps cf [.os 0,.fn g [] caps] [.row k l0]=some (eX (apart cf l0) (.tup []) [.row k (srt cf l0)]):=by
 simp[kD,EE]
section
variable {P:Program}{ρ:Ren}{k:Tag}
theorem J5 {w:World}{b:Nat}{cs:Array Value}{ty:TypeId}(hb:w.heap[b]? =some (.cells cs ty (0,0)))(D:Array Value)(o:Nat):(putRow id w b o D).heap[b]? =some (.cells (putCells id o D cs) ty (0,0)):=by
 unfold putRow mapBlock;simp only[Array.getElem?_modify,if_true,hb];rfl
theorem C5 {w:World}{b c:Nat}(hc:c≠b)(D:Array Value)(o:Nat):(putRow id w b o D).heap[c]? =w.heap[c]?:=by
 unfold putRow mapBlock;simp only[Array.getElem?_modify];rw[if_neg (fun e=>hc e.symm)]
theorem Bj {D cs:Array Value}{o t:Nat}(ht:t<D.size)(hs:o+t<cs.size):(putCells id o D cs)[o+t]? =D[t]?:=by
 unfold putCells;rw[Array.getElem?_mapIdx,Array.getElem?_eq_getElem hs];simp only[Option.map_some];rw[if_pos (by omega),Array.getElem?_eq_getElem ht];have:o+t - o=t:=by omega
 rw[this,getElem!_pos D t ht];rfl
theorem C6 {α:Type}[Inhabited α]{enc:α→List Value}{n:Nat}(hn:∀ x,(enc x).length=n){d:Array α}{i j:Nat}(hi:i<d.size)(hj:j<n):(flatK enc n d)[i*n+j]? =(enc d[i]!)[j]?:=by
 have hlt:i*n+j<d.size*n:=by
  have:=Nat.mul_le_mul_right n (show i+1≤d.size from hi);rw[Nat.succ_mul]at this;omega
 have h1:i*n+j< (flatK enc n d).size:=by rw[size_flatK];exact hlt
 rw[Array.getElem?_eq_getElem h1,←getElem!_pos (flatK enc n d) _ h1,get_flatK enc n d _ hlt];have hd:(i*n+j) / n=i:=by
  rw[Nat.mul_comm,Nat.mul_add_div (by omega),Nat.div_eq_of_lt hj];omega
 have hm:(i*n+j) % n=j:=by
  rw[Nat.mul_comm,Nat.mul_add_mod,Nat.mod_eq_of_lt hj]
 rw[hd,hm];have hj':j< (enc d[i]!).length:=by rw[hn];exact hj
 rw[List.getElem?_eq_getElem hj',getElem!_pos (enc d[i]!) j hj']
theorem sw_b {α:Type}[Inhabited α]{enc:α→List Value}{n b o m:Nat}{w:World}{cs:Array Value}{ty:TypeId}(hb:w.heap[b]? =some (.cells cs ty (0,0)))(d:Array α)(os:Array Obj):(sortWorldK enc n w b o m d os).heap[b]? =some (.cells (putCells id o (flatK enc n d) cs) ty (0,0)):=by
 have hlt:b<w.heap.size:=(Array.getElem?_eq_some_iff.1 hb).1;unfold sortWorldK grow;simp only;rw[Array.getElem?_append_left (by unfold putRowK putRow mapBlock Sort.ahead;simpa using hlt)];exact J5 (w:=Sort.ahead w m) hb _ _
theorem NU {α:Type}[Inhabited α]{enc:α→List Value}{n b o m c:Nat}{w:World}(hc:c<w.heap.size)(hne:c≠b)(d:Array α)(os:Array Obj):(sortWorldK enc n w b o m d os).heap[c]? =w.heap[c]?:=by
 unfold sortWorldK grow;simp only;rw[Array.getElem?_append_left (by unfold putRowK putRow mapBlock Sort.ahead;simpa using hc)];exact C5 (w:=Sort.ahead w m) hne _ _
theorem Bk {α:Type}[Inhabited α]{enc:α→List Value}{n b o m:Nat}{w:World}(d:Array α)(os:Array Obj):w.heap.size≤(sortWorldK enc n w b o m d os).heap.size:=by
 unfold sortWorldK grow putRowK putRow mapBlock Sort.ahead;simp
theorem vF (L:SlLaysF0.n6 P ρ)(aE:∀ w,(isAgg (ρ.t 24)).run P w=.ok true w)(zE:∀ w,(Go.sizeOf (ρ.t 24)).run P w=.ok (aa k) w)(hk:uT k)(h0:0<aa k){g:FuncId}{caps:List SV}{C:List SV→Option Con}(hC:FnOk P g C){cf:k.T→k.T→Int}
  (hcf:∀ x y,C (.agg (cellsOf k x):: .agg (cellsOf k y)::caps)=some (.det True (.v (.int .i64 (cf x y))))) (hO:SWO (ltOf cf)) (hpf:∀ s∈caps,PF s) (hcf0:∃ x y,C (.agg (cellsOf k x):: .agg (cellsOf k y)::caps)=some (.det True (.v (.int .i64 (cf x y))))):FnOkO P (ρ.f 6) (kD k g caps cf):=by
 haveI:Inhabited k.T:=⟨cF k⟩
 refine⟨fun l h c hc args w=>L.f6.enters rfl args w,fun l h c hc hp F own w vs hHp hvs=>?_⟩;unfold kD at hc;obtain⟨l0,hh,hK⟩:=CD hc;clear hc;subst hh;by_cases hl:l=[.os 0,.fn g [] caps]
 rotate_left
 ·rw[if_neg hl]at hK;cases hK
 rw[if_pos hl]at hK;subst hl;cases hK;have hp:apart cf l0:=hp;obtain⟨hsz,hrel⟩:=hvs;have r0:=hrel 0 _ rfl;have r1:=hrel 1 _ rfl;have hvs2:vs= #[vs.getD 0 undef,vs.getD 1 undef]:=by
  apply Array.ext
  ·simpa using hsz
  ·intro i h1 h2;simp only[List.length_cons,List.length_nil]at hsz;match i,h1,h2 with
   |0,h1,_=>simp[Array.getD,h1]
   |1,h1,_=>simp[Array.getD,h1]
   |i+2,h1,_=>omega
 generalize vs.getD 0 undef=v0 at r0 hvs2;generalize vs.getD 1 undef=v1 at r1 hvs2;subst hvs2;obtain⟨hd,o0,rfl,_⟩:=fq r0;obtain⟨hd',o0',hrow⟩:=hHp.at (id:=0) (o:=.row k l0) rfl rfl;rw[o0]at o0';cases o0';have hrow:RowRel F own w k l0 hd.v hd.bs:=hrow;cases r1 with
 | @fn _ _ _ us cs s1 s2 c1 c2=>
 have hus:us= #[]:=Array.eq_empty_of_size_eq_zero (by simpa using s1);subst hus;rcases hrow with⟨a,e1,rfl,e2⟩ | ⟨b,o,cap,cells,ty,e1,e2,e3,e4,e5,e6,e7⟩
 ·rw[e1];refine(AnyF.slices_SortFunc_none L a 0 _ w).mono fun e w' he=>?_;obtain⟨rfl,rfl⟩:=he;refine⟨(),own,trivial,⟨_,rfl,.tup rfl fun j s hj=>by simp at hj⟩,?_,Fr.refl _,Nat.le_refl _⟩;have:srt cf ([]:List k.T)=[]:=by simp[srt]
  rw[this];exact hHp
 ·have hbown:b∈hd.bs:=by rw[e2];simp
  have hbw:b<w.heap.size:=hHp.lt 0 hd b o0 hbown;have hkl:∀ x:k.T,(lM k x).length=aa k:=fun x=>by unfold lM;rw[List.length_map,aZ]
  have hone:∀ x:k.T,∀ v∈lM k x,v.oneCell'=true:=fun x v hv=>by
   unfold lM at hv;rw[List.mem_map]at hv;obtain⟨s,hs,rfl⟩:=hv;obtain⟨v,rfl,h1⟩:=hk x s hs;exact h1
  have eg:∀ args w,(callFunc g args).run P w=.ok (.enter g args) w:=fun args w=>by
   obtain⟨x,y,hxy⟩:=hcf0;exact hC.enter _ _ hxy args w
  have hown:∀ id h2,own id=some h2→id=0:=fun id h2 e=>by have:=hHp.dom id h2 e;simpa using this
  have hH:HoldsK (lM k) (aa k) w b o l0.toArray:=by
   intro t ht;rw[size_flatK]at ht;simp only[List.size_toArray]at ht;have hi:t / aa k<l0.length:=Nat.div_lt_of_lt_mul (by rw[Nat.mul_comm];exact ht);have hj:=Nat.mod_lt t h0;have ht':t=t / aa k*aa k+t % aa k:=(Nat.div_add_mod' t _).symm;have q1:=zV hk e7 hi hj;have q2:=C6 (enc:=lM k) hkl (d:=l0.toArray) (i:=t / aa k) (j:=t % aa k) (by simpa using hi) hj;rw[←ht']at q2;rw[Nat.add_assoc,←ht']at q1;have hl0:l0.toArray[t / aa k]! =l0[t / aa k]:=by rw[getElem!_pos l0.toArray _ (by simpa using hi)];rfl
   rw[hl0]at q2;have hlt:t< (flatK (lM k) (aa k) l0.toArray).size:=by rw[size_flatK];simpa using ht
   constructor
   ·unfold World.cell?;rw[e3];dsimp only;rw[q1,←q2,Array.getElem?_eq_getElem hlt,getElem!_pos _ t hlt];rfl
   ·unfold World.frozen?;rw[e3];simp
  have hcmp:CmpLays P g cs (lM k) (aa k) cf b o l0.toArray.size w:=by
   intro m os dk hdk x y;generalize hW:sortWorldK (lM k) (aa k) w b o m dk os=W;have hcar:Carries F own w F own W:=⟨fun _ h2 e=>⟨h2,e,.refl _⟩,fun c hc hn=>⟨hn,by
    rw[←hW];exact NU hc (fun e=>hn (.inr ⟨0,hd,o0,e▸hbown⟩)) _ _⟩⟩
   have henc:∀ z:k.T,Rel (fun _=>False) cp W (.agg (cellsOf k z)) (.agg (lM k z).toArray):=fun z=>by
    refine .agg (by simp[lM]) fun j s hj=>?_;obtain⟨v,rfl,_⟩:=hk z s (List.mem_of_getElem? hj);have:(lM k z).toArray.getD j undef=v:=by
     unfold lM;rw[Array.getD_eq_getD_getElem?,List.getElem?_toArray,List.getElem?_map,hj];rfl
    rw[this];exact .v v
   have hcall:=C3 (hC.calls _ _ (hcf x y) trivial (fun _=>False) W (#[.agg (lM k x).toArray,.agg (lM k y).toArray]++cs) (fun _ h=>h.elim) ⟨by simp[c1];omega,fun j s hj=>by
    match j,hj with
    |0,hj=>
     cases hj;rw[Array.getD_eq_getD_getElem?,Array.getElem?_append_left (by simp)];exact henc x
    |1,hj=>
     cases hj;rw[Array.getD_eq_getD_getElem?,Array.getElem?_append_left (by simp)];exact henc y
    |j+2,hj=>
     have hj:caps[j]? =some s:=hj;have:=((c2 j s hj).carry hcar).over (hpf s (List.mem_of_getElem? hj)) (F':=fun _=>False) (own':=cp) fun _ _ h=>by
      rcases h with h| ⟨_,_,h,_⟩
      ·exact h
      ·cases h
     have e:(#[Value.agg (lM k x).toArray,.agg (lM k y).toArray]++cs).getD (j+2) undef=cs.getD j undef:=by
      rw[Array.getD_eq_getD_getElem?,Array.getD_eq_getD_getElem?,Array.getElem?_append_right (by simp)];simp
     rw[e];exact this⟩)
   refine hcall.mono fun e w' hq=>?_;obtain⟨he,hdr⟩:=hq;rcases he with⟨s,u,own',hs,rfl,hh,hb⟩ | ⟨z,hz,_⟩
   ·simp only[db]at hs;subst hs;have:=hh.val;simp only[p_]at this;rw[bU this];exact⟨rfl,MP hb (hdr (by simp))⟩
   ·exact hz.elim
  have hall:=AnyQ.slices_SortFunc L (aa k) aE zE (lM k) hkl hone cf hO g cs b o cap l0.toArray w eg hcmp hH hbw (by unfold a7 at e6;simp only[List.size_toArray];omega);rw[e1];refine hall.mono fun e w' he=>?_;obtain⟨rfl,d',n,os,hpm,hst,rfl⟩:=he;have hd':=EN hO hp hpm hst;subst hd';have hlS:(srt cf l0).length=l0.length:=List.length_mergeSort _;generalize srt cf l0=lS at hlS;have hsb:=sw_b (enc:=lM k) (n:=aa k) (o:=o) (m:=n) e3 lS.toArray os;refine⟨(),own,trivial,⟨_,rfl,.tup rfl fun j s hj=>by simp at hj⟩,?_,?_,Nat.le_refl _⟩
  ·refine⟨hHp.dom,fun c hc=>Nat.lt_of_lt_of_le (hHp.foreign c hc) (Bk _ _),hHp.apart,hHp.inj,fun i h2 c e hc=>Nat.lt_of_lt_of_le (hHp.lt i h2 c e hc) (Bk _ _),fun i hi=>?_⟩;match i,hi with
   |0,_=>
    refine⟨hd,o0,?_⟩;show RowRel F own _ k lS hd.v hd.bs;refine .inr ⟨b,o,cap,_,ty,by rw[hlS];exact e1,e2,hsb,?_,by omega,by omega,zW hk fun i j hi hj=>?_⟩
    ·unfold putCells;simpa using e4
    ·have hlt:i*aa k+j< (flatK (lM k) (aa k) lS.toArray).size:=by
      rw[size_flatK];have:=Nat.mul_le_mul_right (aa k) (show i+1≤lS.length from hi);rw[Nat.succ_mul]at this;simp only[List.size_toArray];omega
     have hle:o+(i*aa k+j) <cells.size:=by
      rw[size_flatK]at hlt;simp only[List.size_toArray]at hlt;have:=Nat.mul_le_mul_right (aa k) (show lS.length≤cap by omega);omega
     rw[Nat.add_assoc,Bj hlt hle,C6 hkl (by simpa using hi) hj];have:lS.toArray[i]! =lS[i]:=by rw[getElem!_pos lS.toArray _ (by simpa using hi)];rfl
     rw[this]
   |i+1,hi=>rw[jK (by simp)]at hi;cases hi
  ·refine⟨fun _ h2 e=>⟨h2,e,.refl _⟩,(Fr.refl { w:=w,own:=own}).base,rfl,rfl,rfl,Bk _ _,fun c hc=>?_⟩;exact NU hc.1 (fun e=>hc.2 ⟨0,hd,o0,e▸hbown⟩) _ _
end
def wa (l:List Int):List Int:=l.mergeSort fun x y=>decide (x≤y)
noncomputable def Bl:List SV→List Ob→Option HCon:=gS (fun x_:List Int=>[.os 0]) (fun x_=>[.row .int x_]) (fun x_=>eX True (.tup []) [.row .int (wa x_)])
@[go_sem] theorem Sk (l_:List Int):Bl ([.os 0]) ([.row .int l_])=some (eX True (.tup []) [.row .int (wa l_)]):=fh (A:=fun x_:List Int=>[.os 0]) (H:=fun x_=>[.row .int x_]) (K:=fun x_=>eX True (.tup []) [.row .int (wa x_)]) (x:=l_)
section
variable {P:Program}{ρ:Ren}
theorem Uj {enc:Int→Value}{w:World}{b:Nat}{cs:Array Value}{ty:TypeId}(hb:w.heap[b]? =some (.cells cs ty (0,0)))(D:Array Int)(o:Nat):(putRow enc w b o D).heap[b]? =some (.cells (putCells enc o D cs) ty (0,0)):=by
 unfold putRow mapBlock;simp only[Array.getElem?_modify,if_true,hb];rfl
theorem PZ {enc:Int→Value}{w:World}{b c:Nat}(hc:c≠b)(D:Array Int)(o:Nat):(putRow enc w b o D).heap[c]? =w.heap[c]?:=by
 unfold putRow mapBlock;simp only[Array.getElem?_modify];rw[if_neg (fun e=>hc e.symm)]
theorem J6 {enc:Int→Value}{D:Array Int}{cs:Array Value}{o t:Nat}(ht:t<D.size)(hs:o+t<cs.size):(putCells enc o D cs)[o+t]? =some (enc D[t]):=by
 unfold putCells;rw[Array.getElem?_mapIdx,Array.getElem?_eq_getElem hs];simp only[Option.map_some];rw[if_pos (by omega)];have:o+t - o=t:=by omega
 rw[this,getElem!_pos D t ht]
theorem gp_b {enc:Int→Value}{b o m:Nat}{w:World}{cs:Array Value}{ty:TypeId}(hb:w.heap[b]? =some (.cells cs ty (0,0)))(d:Array Int)(os:Array Obj):(grow (putRow enc (Sort.ahead w m) b o d) os).heap[b]? =some (.cells (putCells enc o d cs) ty (0,0)):=by
 have hlt:b<w.heap.size:=(Array.getElem?_eq_some_iff.1 hb).1;unfold grow;simp only;rw[Array.getElem?_append_left (by unfold putRow mapBlock Sort.ahead;simpa using hlt)];exact Uj (w:=Sort.ahead w m) hb _ _
theorem Uk {enc:Int→Value}{b o m c:Nat}{w:World}(hc:c<w.heap.size)(hne:c≠b)(d:Array Int)(os:Array Obj):(grow (putRow enc (Sort.ahead w m) b o d) os).heap[c]? =w.heap[c]?:=by
 unfold grow;simp only;rw[Array.getElem?_append_left (by unfold putRow mapBlock Sort.ahead;simpa using hc)];exact PZ (w:=Sort.ahead w m) hne _ _
theorem Bm {enc:Int→Value}{b o m:Nat}{w:World}(d:Array Int)(os:Array Obj):w.heap.size≤(grow (putRow enc (Sort.ahead w m) b o d) os).heap.size:=by
 unfold grow putRow mapBlock Sort.ahead;simp
theorem zY:uT .int:=by
 intro x s hs;have:s=.v (.int .i64 x):=by simpa[cellsOf]using hs
 exact⟨_,this,rfl⟩
theorem EP (L:SlLaysM.n5 P ρ):FnOkO P (ρ.f 5) Bl:=by
 refine⟨fun l h c hc args w=>L.f5.enters rfl args w,fun l h c hc hp F own w vs hHp hvs=>?_⟩;obtain⟨l0,rfl,rfl,rfl⟩:=dP hc;clear hc;obtain⟨hsz,hrel⟩:=hvs;have r0:=hrel 0 _ rfl;have hvs2:vs= #[vs.getD 0 undef]:=by
  apply Array.ext
  ·simpa using hsz
  ·intro i h1 h2;simp only[List.length_cons,List.length_nil]at hsz;match i,h1,h2 with
   |0,h1,_=>simp[Array.getD,h1]
   |i+1,h1,_=>omega
 generalize vs.getD 0 undef=v0 at r0 hvs2;subst hvs2;obtain⟨hd,o0,rfl,_⟩:=fq r0;obtain⟨hd',o0',hrow⟩:=hHp.at (id:=0) (o:=.row .int l0) rfl rfl;rw[o0]at o0';cases o0';have hrow:RowRel F own w .int l0 hd.v hd.bs:=hrow;rcases hrow with⟨a,e1,rfl,e2⟩ | ⟨b,o,cap,cells,ty,e1,e2,e3,e4,e5,e6,e7⟩
 ·rw[e1];refine(AnyM.slices_Sort_int_none L a 0 w).mono fun e w' he=>?_;obtain⟨rfl,rfl⟩:=he;refine⟨(),own,trivial,⟨_,rfl,.tup rfl fun j s hj=>by simp at hj⟩,?_,Fr.refl _,Nat.le_refl _⟩;have:wa ([]:List Int)=[]:=by simp[wa]
  show Hp F own w' [.row .int (wa [])];rw[this];exact hHp
 ·have hbown:b∈hd.bs:=by rw[e2];simp
  have hbw:b<w.heap.size:=hHp.lt 0 hd b o0 hbown;have hH:Holds (Value.int .i64) w b o (l0:List Int).toArray:=by
   intro t ht;simp only[List.size_toArray]at ht;have q1:=zV zY e7 (i:=t) (j:=0) ht (by decide);have e0:aa .int=1:=rfl;rw[e0,Nat.mul_one,Nat.add_zero]at q1;constructor
   ·unfold World.cell?;rw[e3];dsimp only;rw[q1,getElem!_pos _ t (by simpa using ht)];rfl
   ·unfold World.frozen?;rw[e3];simp
  have hlen:l0.length<4611686018427387904:=by unfold a7 at e6;omega
  have hall:=AnyM.slices_Sort_int L b o cap l0 w hH hbw hlen;rw[e1];refine hall.mono fun e w' he=>?_;obtain⟨rfl,n,os,rfl⟩:=he;have hlS:(wa l0).length=l0.length:=List.length_mergeSort _;show ∃ r own',_∧D9 F w own 1 (.returned (.tuple #[])) own' (grow (putRow (Value.int .i64) (Sort.ahead w n) b o (wa l0).toArray) os) (.ret (.tup []) [.row .int (wa l0)]);generalize wa l0=lS at hlS;have hsb:=gp_b (enc:=Value.int .i64) (o:=o) (m:=n) e3 lS.toArray os;refine⟨(),own,trivial,⟨_,rfl,.tup rfl fun j s hj=>by simp at hj⟩,?_,?_,Nat.le_refl _⟩
  ·refine⟨hHp.dom,fun c hc=>Nat.lt_of_lt_of_le (hHp.foreign c hc) (Bm _ _),hHp.apart,hHp.inj,fun i h2 c e hc=>Nat.lt_of_lt_of_le (hHp.lt i h2 c e hc) (Bm _ _),fun i hi=>?_⟩;match i,hi with
   |0,_=>
    refine⟨hd,o0,?_⟩;show RowRel F own _ .int lS hd.v hd.bs;have hc1:aa .int=1:=rfl;refine .inr ⟨b,o,cap,_,ty,by rw[hlS];exact e1,e2,hsb,?_,by omega,by omega,zW zY fun i j hi hj=>?_⟩
    ·unfold putCells;simpa using e4
    ·rw[hc1]at hj ⊢;have hj0:j=0:=by omega
     subst hj0;rw[Nat.mul_one,Nat.add_zero,J6 (by simpa using hi) (by have h9:aa .int=1:=rfl;simp only[h9,Nat.mul_one]at e4 e5;omega)];simp[lM,cellsOf,NT]
   |i+1,hi=>rw[jK (by simp)]at hi;cases hi
  ·refine⟨fun _ h2 e=>⟨h2,e,.refl _⟩,(Fr.refl { w:=w,own:=own}).base,rfl,rfl,rfl,Bm _ _,fun c hc=>?_⟩;exact Uk hc.1 (fun e=>hc.2 ⟨0,hd,o0,e▸hbown⟩) _ _
end
end Go.Sx
end
section
namespace Go.Sx
open Go.RowKit
section
variable {P:Program}{ts:Tis}{G:Cons}{N:Nat}
theorem EQ (hm:P.follows .mixedOrders=true)(hts:ts.ok P)(hG:ConsOk P G){id:Nat}{g:Operand}{ps:Array Tmp}{assign body:Code}{C:St→Option LCon}
  (hpn:ps.toList.Nodup) (hpN:∀ p∈ps.toList,p<N) (hca:b_ N assign=true) (hcb:b_ N body=true)
  (h:∀ st0 lc,C st0=some lc→lc.pre→∃ st,NilS st0 st∧∃ (f:FuncId) (caps:List SV) (τ ρ σ:Type) (l:List τ) (mk:τ→List SV) (step:τ→σ→ρ⊕σ) (p:τ→σ→Prop) (pre:Prop) (s0:σ) (exE:ρ→Ex) (outE:ρ→St) (outN:σ→St) (T:List (Nat×SV)) (H:σ→List Ob) (Hy:ρ→List Ob) (js:List Nat),
   raw st.t g=.fn f [] caps∧lc=LC pre (ct step l s0) exE outE outN∧okL step p l s0∧st.h.length≤(H s0).length∧Sub js st.h.length ⟨st.t,qd (jq st caps) st.h⟩ ⟨T,H s0⟩∧
   AZ P f (fun y=>y::caps.map (ren (EA (jq st caps)) 3)) (Cz (jq st caps) st.h) (l.map mk)∧
   (∀ x s,p x s→(mk x).length=ps.size∧∃ L,(∀ l,am P (some l) N L assign)∧(∀ l,am P (some l) N L body)∧exec ts G L assign ⟨psT ps.toList (mk x)++T,H s⟩ (fun e st1=>e=.normal∧exec ts G L body st1 (rgQ step exE T H Hy st.h.length id x s)))∧
   (∀ s,gh (outN s) st.h.length ⟨T,H s⟩)∧∀ y,gh (outE y) st.h.length ⟨T,Hy y⟩):gn P none N id (.rangeFunc g ps assign body) C:=by
 intro nd F w0 st0 lc hC hpre own a w hr;obtain⟨st,hN,hrest⟩:=h st0 lc hC hpre;obtain⟨own',hr'⟩:=hN.rel hr;refine uD hm hts hG hpn hpN hca hcb (C:=fun s=>@ite _ (s=st) (Classical.propDecidable _) (some lc) none) (fun s l e _=>?_) nd F w0 st lc (if_pos rfl) hpre own' a w hr';split at e
 ·rename_i e1;subst e1;cases e;exact hrest
 ·cases e
end
end Go.Sx
end
section
namespace Go.Proofs
open Go.Shelf
def Tryz.sortI_ren:Go.Shelf.Ren:=⟨fun|5=>70|8=>78|7=>106|19=>117|20=>118|10=>139|11=>140|12=>141|13=>142|14=>143|15=>144|16=>145|17=>146|18=>147|30=>167|31=>151|32=>152|33=>168|34=>169|35=>79|40=>182|n=>n,fun|23=>62|25=>3|3=>3|32=>153|22=>62|0=>0|44=>191|46=>193|4=>4|36=>184|35=>183|41=>188|5=>5|9=>9|53=>219|57=>223|63=>236|64=>237|n=>n,fun|n=>n⟩
theorem Tryz.sortI:Go.Proofs.SlLaysM.n5 Tryz.prog Tryz.sortI_ren:= {
 mixed:=by kernel_rfl
 f5:=⟨Tryz.f70.name,by decide,Tryz.func70.trans (congrArg some (by kernel_rfl))⟩
 f7:=⟨Tryz.f106.name,by decide,Tryz.func106.trans (congrArg some (by kernel_rfl))⟩
 f8:=Tryz.func78.trans (congrArg some (by kernel_rfl))
 f10:=⟨Tryz.f139.name,by decide,Tryz.func139.trans (congrArg some (by kernel_rfl))⟩
 f11:=⟨Tryz.f140.name,by decide,Tryz.func140.trans (congrArg some (by kernel_rfl))⟩
 f12:=⟨Tryz.f141.name,by decide,Tryz.func141.trans (congrArg some (by kernel_rfl))⟩
 f13:=⟨Tryz.f142.name,by decide,Tryz.func142.trans (congrArg some (by kernel_rfl))⟩
 f14:=⟨Tryz.f143.name,by decide,Tryz.func143.trans (congrArg some (by kernel_rfl))⟩
 f15:=⟨Tryz.f144.name,by decide,Tryz.func144.trans (congrArg some (by kernel_rfl))⟩
 f16:=⟨Tryz.f145.name,by decide,Tryz.func145.trans (congrArg some (by kernel_rfl))⟩
 f17:=⟨Tryz.f146.name,by decide,Tryz.func146.trans (congrArg some (by kernel_rfl))⟩
 f18:=⟨Tryz.f147.name,by decide,Tryz.func147.trans (congrArg some (by kernel_rfl))⟩
 f19:=Tryz.func117.trans (congrArg some (by kernel_rfl))
 f20:=Tryz.func118.trans (congrArg some (by kernel_rfl))
 f30:=⟨Tryz.f167.name,by decide,Tryz.func167.trans (congrArg some (by kernel_rfl))⟩
 f31:=Tryz.func151.trans (congrArg some (by kernel_rfl))
 f32:=Tryz.func152.trans (congrArg some (by kernel_rfl))
 f33:=⟨Tryz.f168.name,by decide,Tryz.func168.trans (congrArg some (by kernel_rfl))⟩
 f34:=⟨Tryz.f169.name,by decide,Tryz.func169.trans (congrArg some (by kernel_rfl))⟩
 f35:=⟨Tryz.f79.name,by decide,Tryz.func79.trans (congrArg some (by kernel_rfl))⟩
 f40:=⟨Tryz.f182.name,by decide,Tryz.func182.trans (congrArg some (by kernel_rfl))⟩
 t0:=Tryz.underlying0
 a0:=Tryz.isAgg0
 z0:=Tryz.sizeOf0
 v0:=Tryz.zeroValue0
 t3:=Tryz.underlying3
 a3:=Tryz.isAgg3
 z3:=Tryz.sizeOf3
 v3:=Tryz.zeroValue3
 t4:=Tryz.underlying4
 a4:=Tryz.isAgg4
 z4:=Tryz.sizeOf4
 v4:=Tryz.zeroValue4
 t5:=Tryz.underlying5
 a5:=Tryz.isAgg5
 z5:=Tryz.sizeOf5
 v5:=Tryz.zeroValue5
 t9:=Tryz.underlying9
 a9:=Tryz.isAgg9
 z9:=Tryz.sizeOf9
 v9:=Tryz.zeroValue9
 t22:=Tryz.underlying62
 a22:=Tryz.isAgg62
 z22:=Tryz.sizeOf62
 v22:=Tryz.zeroValue62
 t23:=Tryz.underlying62
 a23:=Tryz.isAgg62
 z23:=Tryz.sizeOf62
 v23:=Tryz.zeroValue62
 t25:=Tryz.underlying3
 a25:=Tryz.isAgg3
 z25:=Tryz.sizeOf3
 v25:=Tryz.zeroValue3
 t32:=Tryz.underlying153
 a32:=Tryz.isAgg153
 z32:=Tryz.sizeOf153
 v32:=Tryz.zeroValue153
 t35:=Tryz.underlying183
 a35:=Tryz.isAgg183
 z35:=Tryz.sizeOf183
 v35:=Tryz.zeroValue183
 t36:=Tryz.underlying184
 a36:=Tryz.isAgg184
 z36:=Tryz.sizeOf184
 v36:=Tryz.zeroValue184
 t41:=Tryz.underlying188
 a41:=Tryz.isAgg188
 z41:=Tryz.sizeOf188
 v41:=Tryz.zeroValue188
 t44:=Tryz.underlying191
 a44:=Tryz.isAgg191
 z44:=Tryz.sizeOf191
 v44:=Tryz.zeroValue191
 t46:=Tryz.underlying193
 a46:=Tryz.isAgg193
 z46:=Tryz.sizeOf193
 v46:=Tryz.zeroValue193
 t53:=Tryz.underlying219
 a53:=Tryz.isAgg219
 z53:=Tryz.sizeOf219
 v53:=Tryz.zeroValue219
 t57:=Tryz.underlying223
 a57:=Tryz.isAgg223
 z57:=Tryz.sizeOf223
 v57:=Tryz.zeroValue223
 t63:=Tryz.underlying236
 a63:=Tryz.isAgg236
 z63:=Tryz.sizeOf236
 v63:=Tryz.zeroValue236
 t64:=Tryz.underlying237
 a64:=Tryz.isAgg237
 z64:=Tryz.sizeOf237
 v64:=Tryz.zeroValue237}
end Go.Proofs
end
section
namespace Go.Sx
open Go.Proofs
theorem MT:FnOkO Tryz.prog 70 Bl:=EP Tryz.sortI
@[go_sem] def bS (d:District)(k_0:Nat)(s_0:List (RegisterTitle×Int)):Empty⊕(List (RegisterTitle×Int)):=(bif((d.rights.getD k_0 (default:Right)).kind==1)then .inr (eU .registerTitle .int s_0 ({ right:=(k_0:Int),farm:=(d.rights.getD k_0 (default:Right)).farm}:RegisterTitle) ((d.rights.getD k_0 (default:Right)).litres))else .inr s_0)
@[go_sem] def bT (ds:List Deed)(z_1:Deed)(s_1:List Int×List (RegisterTitle×Int)):Empty⊕(List Int×List (RegisterTitle×Int)):=(bif((bF .registerTitle .int s_1.2 ({ right:=z_1.right,farm:=z_1.since}:RegisterTitle)) ==0)then .inr ((s_1.1++([z_1.no])),s_1.2)else(bif(z_1.kind==1)then .inr (s_1.1,(dl z_1 (bF .registerTitle .int s_1.2 ({ right:=z_1.right,farm:=z_1.since}:RegisterTitle)) (kU .registerTitle .int s_1.2 ({ right:=z_1.right,farm:=z_1.since}:RegisterTitle))))else(bif(z_1.kind==2)then .inr (s_1.1,(ci z_1 (bF .registerTitle .int s_1.2 ({ right:=z_1.right,farm:=z_1.since}:RegisterTitle)) (kU .registerTitle .int s_1.2 ({ right:=z_1.right,farm:=z_1.since}:RegisterTitle))))else(bif(z_1.kind==3)then .inr (s_1.1,(kU .registerTitle .int s_1.2 ({ right:=z_1.right,farm:=z_1.since}:RegisterTitle)))else .inr default))))
def dm (ds:List Deed)(z_1:Deed)(s_1:List Int×List (RegisterTitle×Int)):Prop:=((((bF .registerTitle .int s_1.2 ({ right:=z_1.right,farm:=z_1.since}:RegisterTitle)) ==0)=true→((s_1.1++([z_1.no])).length*8≤eu))∧(((bF .registerTitle .int s_1.2 ({ right:=z_1.right,farm:=z_1.since}:RegisterTitle)) ==0)=false→((z_1.kind==1)=false→(((z_1.kind==2)=true→(dJ z_1 (bF .registerTitle .int s_1.2 ({ right:=z_1.right,farm:=z_1.since}:RegisterTitle)) (kU .registerTitle .int s_1.2 ({ right:=z_1.right,farm:=z_1.since}:RegisterTitle))))∧((z_1.kind==2)=false→((z_1.kind==3)=false→False))))))
def dv (d:District)(ds:List Deed):List (RegisterTitle×Int)×List Int:=(match aq (bS d) d.rights.length 0 ([])with| .inl x=>x.elim| .inr s_0=>(match ct (bT ds) (aA ds) ([],s_0)with| .inl x=>x.elim| .inr s_1=>(s_1.2,(wa s_1.1))))
def g6 (d:District)(ds:List Deed):Prop:=(d.rights.length≤a7→(∀ s_0,aq (bS d) d.rights.length 0 ([])=.inr s_0→((b7 ds ((aA ds).map vA))∧okL (bT ds) (dm ds) (aA ds) ([],s_0))))
@[go_sem] noncomputable def nB:List SV→Option Con:=(pD .district fun d=>(pFn 108 (pXR .deed fun ds=>(pE ((pE (.det (g6 d ds) (.tup [.nm .registerTitle .int ((dv d ds).1),.nw .int ((dv d ds).2)]))))))))
theorem zq93 {l0 l1:List Nat}(a0:JL l0)(a1:JL l1){p:Prop}(h:JL l0→JL l1→p:=by intro ja jb;simp only[go_sem,Nat.reduceBEq,Nat.reduceLeDiff,Nat.reduceLT,decide_true,Nat.reduceAdd,Nat.reduceSub,Nat.reduceMul,Int.reduceLE,Int.reduceLT,Int.reduceToNat,Int.reduceNeg,reduceCtorEq,ou,bT,psT,vA,List.cons_append,List.nil_append,hk0];all_goals exact gH ja jb):p:=h a0 a1
theorem zq94 {l0 l1:List Nat}(a0:JL l0)(a1:JL l1){p:Prop}(h:JL l0→JL l1→p:=by intro ja jb;simp only[go_sem,Nat.reduceBEq,Nat.reduceLeDiff,Nat.reduceLT,decide_true,Nat.reduceAdd,Nat.reduceSub,Nat.reduceMul,Int.reduceLE,Int.reduceLT,Int.reduceToNat,Int.reduceNeg,reduceCtorEq,ou,bT,psT,vA,List.cons_append,List.nil_append,hk0,hk1];all_goals exact gH ja jb):p:=h a0 a1
theorem Ul {l0 l1:List Nat}(a0:JL l0)(a1:JL l1){p:Prop}(h:JL l0→JL l1→p:=by intro ja jb;simp only[go_sem,Nat.reduceBEq,Nat.reduceLeDiff,Nat.reduceLT,decide_true,Nat.reduceAdd,Nat.reduceSub,Nat.reduceMul,Int.reduceLE,Int.reduceLT,Int.reduceToNat,Int.reduceNeg,reduceCtorEq,ou,bT,psT,vA,List.cons_append,List.nil_append,hk0,hk1,hk2];all_goals exact gH ja jb):p:=h a0 a1
theorem Um {l0 l1:List Nat}(a0:JL l0)(a1:JL l1){p:Prop}(h:JL l0→JL l1→p:=by intro ja jb;simp only[go_sem,Nat.reduceBEq,Nat.reduceLeDiff,Nat.reduceLT,decide_true,Nat.reduceAdd,Nat.reduceSub,Nat.reduceMul,Int.reduceLE,Int.reduceLT,Int.reduceToNat,Int.reduceNeg,reduceCtorEq,ou];all_goals exact gH ja jb):p:=h a0 a1
theorem zq99 {p:Prop}(h:p:=by simp only[go_sem,Nat.reduceBEq,Nat.reduceLeDiff,Nat.reduceLT,decide_true,Nat.reduceAdd,Nat.reduceSub,Nat.reduceMul,Int.reduceLE,Int.reduceLT,Int.reduceToNat,Int.reduceNeg,reduceCtorEq,ou];all_goals exact cl):p:=h
theorem sJ:FnOk Tryz.prog 40 nB:=by
 have hG:ConsOk Tryz.prog (mkG [(69,ot)] [(70,Bl),(103,ir),(104,gX),(105,gY)]):=ay (cgc tS cg0) (cgc MT (cgc py (cgc oY (cgc oZ cg0))));refine oS [(.cell 5 62,.int)] mixed an hG (fn:=Tryz.f40) (c:=ae Tryz.f40) kr kr kr kr (aW fun d=>(tF (MA fun ds=>(aG ((aG (fun hp=>?_)))))));dsimp only[aF]at hp;unfold g6 at hp;refine⟨nbl rfl,(fun id st=>bif Nat.beq id 0 then some (LCR (ρ:=Empty) (σ:=(List (RegisterTitle×Int))) 4 [] [0,1,2,3] (fun k_0 s_0=>⟨[(1,.fn 108 [] [.ep [.rs .deed ds] 0]),(4,.ptr 1 0),(5,.ptr 2 0),(14,.rs .right d.rights),(15,.v (.int .i64 (d.rights.length:Int))),(16,.v (.int .i64 (k_0:Int)))],[.dead,.cells [.os 3],.cells [.v (.slice none 0 0)],.mp .registerTitle .int s_0 none]⟩) (bS d) pT d.rights.length ([]) (d.rights.length≤a7) ((·.elim)) ((·.elim)) st)else bif Nat.beq id 2 then some (LC (ρ:=Empty) (σ:=List Int×List (RegisterTitle×Int)) (lk 4 st.t=.ptr 1 0∧lk 5 st.t=.ptr 2 0∧lk 8 st.t=.ptr 5 0∧lk 33 st.t=.fn 108 [] [.ep [.rs .deed ds] 0]∧st.h=[.dead,.cells [.os 3],.cells [.v (.slice none 0 0)],.mp .registerTitle .int (eW (aq (bS d) d.rights.length 0 ([]))) none,.mp .int .fnc d8 none,.cells [.os 4]]∧b7 ds ((aA ds).map vA)∧okL (bT ds) (dm ds) (aA ds) ([],(eW (aq (bS d) d.rights.length 0 ([]))))) (ct (bT ds) (aA ds) ([],(eW (aq (bS d) d.rights.length 0 ([]))))) (fun x=>x.elim) (fun x=>x.elim) (fun s_1=>⟨[(4,.ptr 1 0),(5,.ptr 2 0),(8,.ptr 5 0)],[.dead,.cells [.os 3],.cells [.os 7],.mp .registerTitle .int s_1.2 none,.mp .int .fnc d8 none,.cells [.os 4],.dead,.row .int s_1.1]⟩))else none),?_,?_⟩
 ·unfold ae Tryz.f40;simp only[am,true_and,and_true];refine⟨?_,?_⟩
  ·refine dg mixed an hG kr (fun _=>rfl) (d.rights.length:Int) rfl iO (fun hb0 k_0 s_0 hlt0 _ hw hc=>⟨L0,ai _,?_⟩) (fun hb0 s_0 hc=>?_)
   ·exact cm (jl [0,1,2,3])
   ·exact cn (jl [0,1,2,3])
  ·refine EQ mixed an hG (by decide) (by decide) kr kr fun st lc hC hp=>?_;simp only[go_sem,Nat.reduceBEq,Option.some.injEq]at hC;subst hC;obtain⟨t,h⟩:=st;dsimp only[LC]at hp;obtain⟨e1_0,e1_1,e1_2,e1_3,rfl,hb1,hok1⟩:=hp;refine⟨⟨t,[.dead,.cells [.os 3],.cells [.os 6],.mp .registerTitle .int (eW (aq (bS d) d.rights.length 0 ([]))) none,.mp .int .fnc d8 none,.cells [.os 4],.row .int ([])]⟩,NilS.cell (h:=[.dead,.cells [.os 3],.cells [.v (.slice none 0 0)],.mp .registerTitle .int (eW (aq (bS d) d.rights.length 0 ([]))) none,.mp .int .fnc d8 none,.cells [.os 4]]) (i:=2) (j:=0) (.row .int ([])) (NilS.refl _) rfl rfl (.inl ⟨_,rfl⟩),108,[.ep [.rs .deed ds] 0],Deed,_,_,(aA ds),vA,(bT ds),(dm ds),_,([],(eW (aq (bS d) d.rights.length 0 ([])))),_,_,_,[(4,.ptr 1 0),(5,.ptr 2 0),(8,.ptr 5 0)],(fun s_1=>[.dead,.cells [.os 3],.cells [.os 7],.mp .registerTitle .int s_1.2 none,.mp .int .fnc d8 none,.cells [.os 4],.dead,.row .int s_1.1]),(fun x=>x.elim),[0,1,2,3,4,5,6,6],?_,rfl,hok1,nbl rfl,?_,iR ds _ hb1,fun z_1 s_1 hq1=>⟨rfl,L0,fun l=>?_,fun l=>?_,?_⟩,fun s_1=>?_,fun y=>?_⟩
   ·simp only[go_sem,e1_0,e1_1,e1_2,e1_3]
   ·simp only[go_sem,Nat.reduceBEq,Nat.reduceLeDiff,Nat.reduceLT,decide_true,Nat.reduceAdd,Nat.reduceSub,Nat.reduceMul,Int.reduceLE,Int.reduceLT,Int.reduceToNat,Int.reduceNeg,reduceCtorEq,qd,jq,List.flatMap_cons,List.flatMap_nil,List.nil_append,List.append_nil,List.map_nil,e1_0,e1_1,e1_2,e1_3];all_goals (first|done|decide|(repeat' (first|refine And.intro ?_ ?_|rfl|decide)))
   ·simp only[am,and_self,true_and,and_true]
   ·simp only[am,and_self,true_and,and_true]
   ·unfold dm at hq1;rcases Bool.eq_false_or_eq_true (z_1.kind==1)with hk0|hk0
    ·exact zq93 (jl [0,1,2,3,4,5,6,11]) (jl [0,1,2,3,4,5,6,7])
    rcases Bool.eq_false_or_eq_true (z_1.kind==2)with hk1|hk1
    ·exact zq94 (jl [0,1,2,3,4,5,6,11]) (jl [0,1,2,3,4,5,6,7])
    rcases Bool.eq_false_or_eq_true (z_1.kind==3)with hk2|hk2
    ·exact Ul (jl [0,1,2,3,4,5,6,11]) (jl [0,1,2,3,4,5,6,7])
    exact Ul (jl [0,1,2,3,4,5,6,11]) (jl [0,1,2,3,4,5,6,7])
   ·exact Um (jl [0,1,2,3,4,5,6,11]) (jl [0,1,2,3,4,5,6,7])
   ·exact Um (jl [0,1,2,3,4,5,6,11]) (jl [0,1,2,3,4,5,6,7])
 ·unfold ae Tryz.f40;try unfold dv
  exact zq99
end Go.Sx
end
section
namespace Go.Proofs
open Go.Shelf
def Tryz.sortLh_ren:Go.Shelf.Ren:=⟨fun|6=>42|15=>78|14=>77|28=>117|29=>118|20=>109|21=>110|22=>111|23=>112|24=>113|25=>114|26=>115|27=>116|46=>150|47=>151|48=>152|49=>153|50=>154|57=>171|n=>n,fun|22=>54|24=>58|25=>103|3=>3|39=>153|0=>0|53=>191|55=>193|4=>4|46=>184|45=>183|50=>188|5=>5|9=>9|66=>219|70=>223|76=>236|77=>237|n=>n,fun|n=>n⟩
theorem Tryz.sortLh:Go.Proofs.SlLaysF0.n6 Tryz.prog Tryz.sortLh_ren:= {
 mixed:=by kernel_rfl
 f6:=⟨Tryz.f42.name,by decide,Tryz.func42.trans (congrArg some (by kernel_rfl))⟩
 f14:=⟨Tryz.f77.name,by decide,Tryz.func77.trans (congrArg some (by kernel_rfl))⟩
 f15:=Tryz.func78.trans (congrArg some (by kernel_rfl))
 f20:=⟨Tryz.f109.name,by decide,Tryz.func109.trans (congrArg some (by kernel_rfl))⟩
 f21:=⟨Tryz.f110.name,by decide,Tryz.func110.trans (congrArg some (by kernel_rfl))⟩
 f22:=⟨Tryz.f111.name,by decide,Tryz.func111.trans (congrArg some (by kernel_rfl))⟩
 f23:=⟨Tryz.f112.name,by decide,Tryz.func112.trans (congrArg some (by kernel_rfl))⟩
 f24:=⟨Tryz.f113.name,by decide,Tryz.func113.trans (congrArg some (by kernel_rfl))⟩
 f25:=⟨Tryz.f114.name,by decide,Tryz.func114.trans (congrArg some (by kernel_rfl))⟩
 f26:=⟨Tryz.f115.name,by decide,Tryz.func115.trans (congrArg some (by kernel_rfl))⟩
 f27:=⟨Tryz.f116.name,by decide,Tryz.func116.trans (congrArg some (by kernel_rfl))⟩
 f28:=Tryz.func117.trans (congrArg some (by kernel_rfl))
 f29:=Tryz.func118.trans (congrArg some (by kernel_rfl))
 f46:=⟨Tryz.f150.name,by decide,Tryz.func150.trans (congrArg some (by kernel_rfl))⟩
 f47:=Tryz.func151.trans (congrArg some (by kernel_rfl))
 f48:=Tryz.func152.trans (congrArg some (by kernel_rfl))
 f49:=⟨Tryz.f153.name,by decide,Tryz.func153.trans (congrArg some (by kernel_rfl))⟩
 f50:=⟨Tryz.f154.name,by decide,Tryz.func154.trans (congrArg some (by kernel_rfl))⟩
 f57:=⟨Tryz.f171.name,by decide,Tryz.func171.trans (congrArg some (by kernel_rfl))⟩
 t0:=Tryz.underlying0
 a0:=Tryz.isAgg0
 z0:=Tryz.sizeOf0
 v0:=Tryz.zeroValue0
 t3:=Tryz.underlying3
 a3:=Tryz.isAgg3
 z3:=Tryz.sizeOf3
 v3:=Tryz.zeroValue3
 t4:=Tryz.underlying4
 a4:=Tryz.isAgg4
 z4:=Tryz.sizeOf4
 v4:=Tryz.zeroValue4
 t5:=Tryz.underlying5
 a5:=Tryz.isAgg5
 z5:=Tryz.sizeOf5
 v5:=Tryz.zeroValue5
 t9:=Tryz.underlying9
 a9:=Tryz.isAgg9
 z9:=Tryz.sizeOf9
 v9:=Tryz.zeroValue9
 t22:=Tryz.underlying54
 a22:=Tryz.isAgg54
 z22:=Tryz.sizeOf54
 v22:=Tryz.zeroValue54
 t25:=Tryz.underlying103
 a25:=Tryz.isAgg103
 z25:=Tryz.sizeOf103
 v25:=Tryz.zeroValue103
 t39:=Tryz.underlying153
 a39:=Tryz.isAgg153
 z39:=Tryz.sizeOf153
 v39:=Tryz.zeroValue153
 t45:=Tryz.underlying183
 a45:=Tryz.isAgg183
 z45:=Tryz.sizeOf183
 v45:=Tryz.zeroValue183
 t46:=Tryz.underlying184
 a46:=Tryz.isAgg184
 z46:=Tryz.sizeOf184
 v46:=Tryz.zeroValue184
 t50:=Tryz.underlying188
 a50:=Tryz.isAgg188
 z50:=Tryz.sizeOf188
 v50:=Tryz.zeroValue188
 t53:=Tryz.underlying191
 a53:=Tryz.isAgg191
 z53:=Tryz.sizeOf191
 v53:=Tryz.zeroValue191
 t55:=Tryz.underlying193
 a55:=Tryz.isAgg193
 z55:=Tryz.sizeOf193
 v55:=Tryz.zeroValue193
 t66:=Tryz.underlying219
 a66:=Tryz.isAgg219
 z66:=Tryz.sizeOf219
 v66:=Tryz.zeroValue219
 t70:=Tryz.underlying223
 a70:=Tryz.isAgg223
 z70:=Tryz.sizeOf223
 v70:=Tryz.zeroValue223
 t76:=Tryz.underlying236
 a76:=Tryz.isAgg236
 z76:=Tryz.sizeOf236
 v76:=Tryz.zeroValue236
 t77:=Tryz.underlying237
 a77:=Tryz.isAgg237
 z77:=Tryz.sizeOf237
 v77:=Tryz.zeroValue237}
end Go.Proofs
end
section
namespace Go.Sx
open Go.Lib Go.Proofs Go.RowKit Go.Shelf Go.Sort
noncomputable def qK:List SV→List Ob→Option HCon:=kD .holding 43 [] bR
@[go_sem] theorem J7 {l0:List Holding}:qK [.os 0,.fn 43 [] []] [.row .holding l0]=some (eX (apart bR l0) (.tup []) [.row .holding (srt bR l0)]):=sb
theorem za:uT .holding:=fun x s hs=>by
 simp only[cellsOf,List.mem_cons,List.not_mem_nil,or_false]at hs;rcases hs with rfl|rfl|rfl|rfl;all_goals exact⟨_,rfl,rfl⟩
theorem vG (x y:Holding):ph (.agg (cellsOf .holding x):: .agg (cellsOf .holding y)::[])=some (.det True (.v (.int .i64 (bR x y)))):=by
 simp only[go_sem,Nat.reduceBEq]
theorem Bn:FnOkO Tryz.prog 42 qK:=
 vF (k:=.holding) Tryz.sortLh (fun w=>by kernel_rfl) (fun w=>by kernel_rfl) za (by decide) (g:=43) (caps:=[]) uM (cf:=bR) vG vz (fun s hs=>by cases hs) ⟨default,default,vG _ _⟩
end Go.Sx
end
section
namespace Go.Sx
open Go.Proofs
open IntKind (i64)
theorem clQ {p:Prop}(h:p:=by((repeat' (first|with_reducible refine And.intro ?_ ?_|with_reducible intro _)) <;>(first|done|with_reducible exact Empty.elim ‹Empty› |with_reducible assumption|rfl|((try simp only[A9,JT]at *);first|with_reducible assumption|(simp_all only[eW,fA];done) |grind|(simp_all only[eW,fA];grind))))):p:=h
@[go_sem] def cX (a0:District)(a1:List Deed)(a2:Int)(a3:Int)(k_0:RegisterTitle×Int)(s_0:List Holding):Empty⊕(List Holding):=(bif(decide (k_0.2 > 0))then .inr (s_0++([({ right:=k_0.1.right,farm:=k_0.1.farm,litres:=k_0.2,rank:=(a0.rights.getD (Int.toNat k_0.1.right) (default:Right)).rank}:Holding)]))else .inr s_0)
def iF (a0:District)(a1:List Deed)(a2:Int)(a3:Int)(k_0:RegisterTitle×Int)(s_0:List Holding):Prop:=((decide (k_0.2 > 0))=true→((0≤k_0.1.right∧k_0.1.right< (a0.rights.length:Int))∧((s_0++([({ right:=k_0.1.right,farm:=k_0.1.farm,litres:=k_0.2,rank:=(a0.rights.getD (Int.toNat k_0.1.right) (default:Right)).rank}:Holding)])).length*32≤eu)))
def ak (a0:District)(a1:List Deed)(a2:Int)(a3:Int):List Holding×Int:=(bif((ar a0 a1) !=0)then([],(ar a0 a1))else(bif((!(aH a2 0 (i64.wrap (a0.hours - 1)))) ||(!(aH a3 0 1048576)))then([],1)else(match ct (cX a0 a1 a2 a3) ((dv a0 (cL a1 a2 a3)).1) ([])with| .inl x=>x.elim| .inr s_0=>((srt bR s_0),0))))
def kT (a0:District)(a1:List Deed)(a2:Int)(a3:Int):Prop:=((f_ a0 a1)∧((((ar a0 a1) !=0)=true→(([],(ar a0 a1))=(ak a0 a1 a2 a3)))∧(((ar a0 a1) !=0)=false→((((!(aH a2 0 (i64.wrap (a0.hours - 1)))) ||(!(aH a3 0 1048576)))=true→(([],1)=(ak a0 a1 a2 a3)))∧(((!(aH a2 0 (i64.wrap (a0.hours - 1)))) ||(!(aH a3 0 1048576)))=false→((eZ a1 a2 a3)∧((g6 a0 (cL a1 a2 a3))∧(∀ L_0,L_0.Perm ((dv a0 (cL a1 a2 a3)).1)→(okL (cX a0 a1 a2 a3) (iF a0 a1 a2 a3) L_0 ([])∧(∀ s_0,ct (cX a0 a1 a2 a3) L_0 ([])=.inr s_0→((apart bR s_0)∧(((srt bR s_0),0)=(ak a0 a1 a2 a3)))))))))))))
@[go_sem] def nM:List SV→Option Con:=(pD .district fun a0=>(pR .deed fun a1=>(pI fun a2=>(pI fun a3=>(pE (.det (kT a0 a1 a2 a3) (.tup [.nw .holding ((ak a0 a1 a2 a3).1),.v (.int .i64 ((ak a0 a1 a2 a3).2))])))))))
theorem Uo {l0 l1:List Nat}(a0:JL l0)(a1:JL l1){p:Prop}(h:JL l0→JL l1→p:=by intro ja jb;simp only[go_sem,Nat.reduceBEq,Nat.reduceLeDiff,Nat.reduceLT,decide_true,Nat.reduceAdd,Nat.reduceSub,Nat.reduceMul,Int.reduceLE,Int.reduceLT,Int.reduceToNat,Int.reduceNeg,reduceCtorEq,List.not_mem_nil];all_goals exact gH ja jb):p:=h a0 a1
theorem Uq {p:Prop}(h:p:=by simp only[go_sem,Nat.reduceBEq,Nat.reduceLeDiff,Nat.reduceLT,decide_true,Nat.reduceAdd,Nat.reduceSub,Nat.reduceMul,Int.reduceLE,Int.reduceLT,Int.reduceToNat,Int.reduceNeg,reduceCtorEq];all_goals exact clQ):p:=h
theorem yi:FnOk Tryz.prog 21 nM:=by
 have hG:ConsOk Tryz.prog (mkG [(26,fun l=>kC (dH [.st .district,.sl .deed] l)),(39,kO),(40,fun l=>nB (dH [.st .district,.o] l)),(41,fun l=>lU (dH [.sl .deed,.o,.o] l))] [(42,qK)]):=ay (cgc (nu.norm [.st .district,.sl .deed]) (cgc mM (cgc (sJ.norm [.st .district,.o]) (cgc (qE.norm [.sl .deed,.o,.o]) cg0)))) (cgc Bn cg0);refine oS [(.tmp 8,.holding)] mixed an hG (fn:=Tryz.f21) (c:=ae Tryz.f21) kr kr kr kr (aW fun a0=>(ef fun a1=>(bY fun a2=>(bY fun a3=>(aG (fun hp=>?_))))));dsimp only[aF]at hp;unfold kT at hp;refine⟨nbl rfl,(fun id st=>bif Nat.beq id 0 then some (LCP (τ:=RegisterTitle×Int) (ρ:=Empty) (σ:=(List Holding)) 4 [.slot 8 (.row .holding ([]))] [0,1,2,3,4] (fun left_0 cur_0 s_0=>⟨[(4,.ptr 0 0),(8,.os 4),(41,.ptr 3 0)],[.cells (cellsOf .district a0),.mp .registerTitle .int ((dv a0 (cL a1 a2 a3)).1) (some (3,none)),.dead,.mi (some 1) (((dv a0 (cL a1 a2 a3)).1).length) left_0 cur_0,.row .holding s_0]⟩) (cX a0 a1 a2 a3) (iF a0 a1 a2 a3) ((dv a0 (cL a1 a2 a3)).1) ([]) ((·.elim)) ((·.elim)) (fun s_0=>⟨[(8,.os 4)],[.dead,.dead,.dead,.dead,.row .holding s_0]⟩) st)else none),?_,?_⟩
 ·unfold ae Tryz.f21;simp only[am,true_and,and_true]
  ·refine JR (cF .registerTitle,cF .int) 3 mixed an hG kr (fun _=>rfl) fun left_0 cur_0 s_0 hp0=>⟨L0,ai _,?_⟩
   ·by_cases hl0:left_0=[]
    ·subst hl0;exact Uo (jl [0,1,2,3,7]) (jl [0,1,2,3,4])
    ·simp only[go_sem,Nat.reduceBEq,Nat.reduceLeDiff,Nat.reduceLT,decide_true,Nat.reduceAdd,Nat.reduceSub,Nat.reduceMul,Int.reduceLE,Int.reduceLT,Int.reduceToNat,Int.reduceNeg,reduceCtorEq,hl0];intro j hj0;obtain⟨hlt0,hq0⟩:=hp0 j hj0;unfold iF at hq0;all_goals exact gH (jl [0,1,2,3,7]) (jl [0,1,2,3,4])
 ·unfold ae Tryz.f21;exact Uq
@[go_sem] def uU (x:Claim):List SV:=[.agg (cellsOf .claim x)]
@[go_sem] def sd:List SV→Option Con:=(pD .district fun d=>(pR .deed fun l_=>(pI fun hour=>(pI fun known=>(pE (.det True (.fn 87 [] [.ep (cellsOf .district d) 0,.ep [.rs .deed l_] 0,.ep [.v (.int .i64 hour)] 0,.ep [.v (.int .i64 known)] 0])))))))
theorem yj:FnOk Tryz.prog 51 sd:=by
 have hG:ConsOk Tryz.prog (mkG [] []):=ay cg0 cg0;refine ba [.o] mixed an hG (fn:=Tryz.f51) (c:=ae Tryz.f51) kr kr kr kr (aW fun d=>(ef fun l_=>(bY fun hour=>(bY fun known=>(aG (fun hp=>?_))))));refine⟨nbl rfl,L0,ai _,?_⟩;unfold ae Tryz.f51;simp only[go_sem,CI,CJ,Nat.reduceBEq,Nat.reduceLeDiff,Nat.reduceAdd,Nat.reduceSub,Nat.reduceMul]
@[go_sem] def ez (d:District)(l_:List Deed)(hour:Int)(known:Int)(k_0:Nat)(s_0:List Claim):Empty⊕(List Claim):=(bif(((decide (hour< (d.rights.getD (Int.toNat ((((ak d l_ hour known).1).getD k_0 (default:Holding)).right)) (default:Right)).since)) ||(decide (hour > (d.rights.getD (Int.toNat ((((ak d l_ hour known).1).getD k_0 (default:Holding)).right)) (default:Right)).to))) ||(decide ((Int.tmod (i64.wrap (hour - (d.rights.getD (Int.toNat ((((ak d l_ hour known).1).getD k_0 (default:Holding)).right)) (default:Right)).since)) ((d.rights.getD (Int.toNat ((((ak d l_ hour known).1).getD k_0 (default:Holding)).right)) (default:Right)).every))≥(d.rights.getD (Int.toNat ((((ak d l_ hour known).1).getD k_0 (default:Holding)).right)) (default:Right)).length)))then .inr s_0 else .inr (s_0++[({ right:=(((ak d l_ hour known).1).getD k_0 (default:Holding)).right,farm:=(((ak d l_ hour known).1).getD k_0 (default:Holding)).farm,hour:=hour,litres:=(((ak d l_ hour known).1).getD k_0 (default:Holding)).litres,rank:=(((ak d l_ hour known).1).getD k_0 (default:Holding)).rank}:Claim)]))
def jx (d:District)(l_:List Deed)(hour:Int)(known:Int)(items_:List (List SV))(k_0:Nat)(s_0:List Claim):Prop:=((0≤(((ak d l_ hour known).1).getD k_0 (default:Holding)).right∧(((ak d l_ hour known).1).getD k_0 (default:Holding)).right< (d.rights.length:Int))∧((((decide (hour< (d.rights.getD (Int.toNat ((((ak d l_ hour known).1).getD k_0 (default:Holding)).right)) (default:Right)).since)) ||(decide (hour > (d.rights.getD (Int.toNat ((((ak d l_ hour known).1).getD k_0 (default:Holding)).right)) (default:Right)).to)))=false→(d.rights.getD (Int.toNat ((((ak d l_ hour known).1).getD k_0 (default:Holding)).right)) (default:Right)).every≠0)∧((((decide (hour< (d.rights.getD (Int.toNat ((((ak d l_ hour known).1).getD k_0 (default:Holding)).right)) (default:Right)).since)) ||(decide (hour > (d.rights.getD (Int.toNat ((((ak d l_ hour known).1).getD k_0 (default:Holding)).right)) (default:Right)).to))) ||(decide ((Int.tmod (i64.wrap (hour - (d.rights.getD (Int.toNat ((((ak d l_ hour known).1).getD k_0 (default:Holding)).right)) (default:Right)).since)) ((d.rights.getD (Int.toNat ((((ak d l_ hour known).1).getD k_0 (default:Holding)).right)) (default:Right)).every))≥(d.rights.getD (Int.toNat ((((ak d l_ hour known).1).getD k_0 (default:Holding)).right)) (default:Right)).length)))=false→(items_[s_0.length]? =some (uU ({ right:=(((ak d l_ hour known).1).getD k_0 (default:Holding)).right,farm:=(((ak d l_ hour known).1).getD k_0 (default:Holding)).farm,hour:=hour,litres:=(((ak d l_ hour known).1).getD k_0 (default:Holding)).litres,rank:=(((ak d l_ hour known).1).getD k_0 (default:Holding)).rank}:Claim))))))
def dK (d:District)(l_:List Deed)(hour:Int)(known:Int):List Claim:=(match aq (ez d l_ hour known) (((ak d l_ hour known).1).length) 0 ([]:List Claim)with| .inl x=>x.elim| .inr s_0=>s_0)
def gI (d:District)(l_:List Deed)(hour:Int)(known:Int)(items_:List (List SV)):Prop:=((kT d l_ hour known)∧(((ak d l_ hour known).1).length≤a7→(okI (ez d l_ hour known) (jx d l_ hour known items_) (((ak d l_ hour known).1).length) 0 ([]:List Claim)∧(∀ s_0,aq (ez d l_ hour known) (((ak d l_ hour known).1).length) 0 ([]:List Claim)=.inr s_0→(items_.length=s_0.length)))))
theorem uV (d:District)(l_:List Deed)(hour:Int)(known:Int)(items_:List (List SV))(hp:gI d l_ hour known items_):AZ Tryz.prog 87 (fun y=>[y,.ep (cellsOf .district d) 0,.ep [.rs .deed l_] 0,.ep [.v (.int .i64 hour)] 0,.ep [.v (.int .i64 known)] 0]) [] items_:=by
 unfold gI at hp;refine JQ mixed an (fn:=Tryz.f87) (c:=ae Tryz.f87) kr kr kr kr rfl (n:=0) rfl (G:=fun r_=>yU [(21,fun l=>nM (dH [.st .district,.sl .deed,.o,.o] l))] [] (Hv items_ r_)) (fun r_ hy=>?_) (fun args w=>by kernel_rfl);have hG:ConsOk Tryz.prog (yU [(21,fun l=>nM (dH [.st .district,.sl .deed,.o,.o] l))] [] (Hv items_ r_)):=wo (cgc (yi.norm [.st .district,.sl .deed,.o,.o]) cg0) cg0 hy;refine⟨hG,nbl rfl,(fun id st=>bif Nat.beq id 0 then some (LCY (ρ:=Empty) (σ:=(List Claim)) 2 [] [0,1] (fun k_0 s_0=>⟨[(0,.os 0),(1,.ep (cellsOf .district d) 0),(3,.ep [.v (.int .i64 hour)] 0),(19,.os 1),(20,.v (.int .i64 (((ak d l_ hour known).1).length:Int))),(21,.v (.int .i64 (k_0:Int)))],[.ab (r_.1 (s_0.length+1)),.row .holding ((ak d l_ hour known).1)]⟩) (ez d l_ hour known) (jx d l_ hour known items_) (((ak d l_ hour known).1).length) ([]:List Claim) (((ak d l_ hour known).1).length≤a7) ((·.elim)) ((·.elim)) ⟨[],[.ab (r_.1 0),.dead]⟩ st)else none),?_,?_⟩
 ·unfold ae Tryz.f87;simp only[am,true_and,and_true]
  ·refine CF mixed an hG kr (fun _=>rfl) (((ak d l_ hour known).1).length:Int) rfl iO (fun hb0 k_0 s_0 hlt0 hq0 hw hc=>⟨L0,ai _,?_⟩) (fun hb0 s_0 hc=>?_)
   ·unfold jx at hq0;try simp only[hw,Int.toNat_natCast]at hq0
    exact CK (jl [0,1])
   ·exact CL (jl [0,1])
 ·unfold ae Tryz.f87;exact Ue (jl [0])
end Go.Sx
end
section
namespace Go.Proofs
open Go.Shelf
def Tryz.sortLfh_ren:Go.Shelf.Ren:=⟨fun|6=>55|15=>78|14=>88|28=>117|29=>118|20=>122|21=>123|22=>124|23=>125|24=>126|25=>127|26=>128|27=>129|46=>157|47=>151|48=>152|49=>158|50=>159|57=>173|n=>n,fun|22=>77|24=>81|25=>135|3=>3|39=>153|0=>0|53=>191|55=>193|4=>4|46=>184|45=>183|50=>188|5=>5|9=>9|66=>219|70=>223|76=>236|77=>237|n=>n,fun|n=>n⟩
theorem Tryz.sortLfh:Go.Proofs.SlLaysF0.n6 Tryz.prog Tryz.sortLfh_ren:= {
 mixed:=by kernel_rfl
 f6:=⟨Tryz.f55.name,by decide,Tryz.func55.trans (congrArg some (by kernel_rfl))⟩
 f14:=⟨Tryz.f88.name,by decide,Tryz.func88.trans (congrArg some (by kernel_rfl))⟩
 f15:=Tryz.func78.trans (congrArg some (by kernel_rfl))
 f20:=⟨Tryz.f122.name,by decide,Tryz.func122.trans (congrArg some (by kernel_rfl))⟩
 f21:=⟨Tryz.f123.name,by decide,Tryz.func123.trans (congrArg some (by kernel_rfl))⟩
 f22:=⟨Tryz.f124.name,by decide,Tryz.func124.trans (congrArg some (by kernel_rfl))⟩
 f23:=⟨Tryz.f125.name,by decide,Tryz.func125.trans (congrArg some (by kernel_rfl))⟩
 f24:=⟨Tryz.f126.name,by decide,Tryz.func126.trans (congrArg some (by kernel_rfl))⟩
 f25:=⟨Tryz.f127.name,by decide,Tryz.func127.trans (congrArg some (by kernel_rfl))⟩
 f26:=⟨Tryz.f128.name,by decide,Tryz.func128.trans (congrArg some (by kernel_rfl))⟩
 f27:=⟨Tryz.f129.name,by decide,Tryz.func129.trans (congrArg some (by kernel_rfl))⟩
 f28:=Tryz.func117.trans (congrArg some (by kernel_rfl))
 f29:=Tryz.func118.trans (congrArg some (by kernel_rfl))
 f46:=⟨Tryz.f157.name,by decide,Tryz.func157.trans (congrArg some (by kernel_rfl))⟩
 f47:=Tryz.func151.trans (congrArg some (by kernel_rfl))
 f48:=Tryz.func152.trans (congrArg some (by kernel_rfl))
 f49:=⟨Tryz.f158.name,by decide,Tryz.func158.trans (congrArg some (by kernel_rfl))⟩
 f50:=⟨Tryz.f159.name,by decide,Tryz.func159.trans (congrArg some (by kernel_rfl))⟩
 f57:=⟨Tryz.f173.name,by decide,Tryz.func173.trans (congrArg some (by kernel_rfl))⟩
 t0:=Tryz.underlying0
 a0:=Tryz.isAgg0
 z0:=Tryz.sizeOf0
 v0:=Tryz.zeroValue0
 t3:=Tryz.underlying3
 a3:=Tryz.isAgg3
 z3:=Tryz.sizeOf3
 v3:=Tryz.zeroValue3
 t4:=Tryz.underlying4
 a4:=Tryz.isAgg4
 z4:=Tryz.sizeOf4
 v4:=Tryz.zeroValue4
 t5:=Tryz.underlying5
 a5:=Tryz.isAgg5
 z5:=Tryz.sizeOf5
 v5:=Tryz.zeroValue5
 t9:=Tryz.underlying9
 a9:=Tryz.isAgg9
 z9:=Tryz.sizeOf9
 v9:=Tryz.zeroValue9
 t22:=Tryz.underlying77
 a22:=Tryz.isAgg77
 z22:=Tryz.sizeOf77
 v22:=Tryz.zeroValue77
 t25:=Tryz.underlying135
 a25:=Tryz.isAgg135
 z25:=Tryz.sizeOf135
 v25:=Tryz.zeroValue135
 t39:=Tryz.underlying153
 a39:=Tryz.isAgg153
 z39:=Tryz.sizeOf153
 v39:=Tryz.zeroValue153
 t45:=Tryz.underlying183
 a45:=Tryz.isAgg183
 z45:=Tryz.sizeOf183
 v45:=Tryz.zeroValue183
 t46:=Tryz.underlying184
 a46:=Tryz.isAgg184
 z46:=Tryz.sizeOf184
 v46:=Tryz.zeroValue184
 t50:=Tryz.underlying188
 a50:=Tryz.isAgg188
 z50:=Tryz.sizeOf188
 v50:=Tryz.zeroValue188
 t53:=Tryz.underlying191
 a53:=Tryz.isAgg191
 z53:=Tryz.sizeOf191
 v53:=Tryz.zeroValue191
 t55:=Tryz.underlying193
 a55:=Tryz.isAgg193
 z55:=Tryz.sizeOf193
 v55:=Tryz.zeroValue193
 t66:=Tryz.underlying219
 a66:=Tryz.isAgg219
 z66:=Tryz.sizeOf219
 v66:=Tryz.zeroValue219
 t70:=Tryz.underlying223
 a70:=Tryz.isAgg223
 z70:=Tryz.sizeOf223
 v70:=Tryz.zeroValue223
 t76:=Tryz.underlying236
 a76:=Tryz.isAgg236
 z76:=Tryz.sizeOf236
 v76:=Tryz.zeroValue236
 t77:=Tryz.underlying237
 a77:=Tryz.isAgg237
 z77:=Tryz.sizeOf237
 v77:=Tryz.zeroValue237}
end Go.Proofs
end
section
namespace Go.Sx
open Go.Lib Go.Proofs Go.RowKit Go.Shelf Go.Sort
noncomputable def qL:List SV→List Ob→Option HCon:=kD .claimsFound 56 [] dO
@[go_sem] theorem J8 {l0:List ClaimsFound}:qL [.os 0,.fn 56 [] []] [.row .claimsFound l0]=some (eX (apart dO l0) (.tup []) [.row .claimsFound (srt dO l0)]):=sb
theorem C7:uT .claimsFound:=fun x s hs=>by
 simp only[cellsOf,List.mem_cons,List.not_mem_nil,or_false]at hs;rcases hs with rfl|rfl|rfl|rfl|rfl|rfl;all_goals exact⟨_,rfl,rfl⟩
theorem zZ (x y:ClaimsFound):qp (.agg (cellsOf .claimsFound x):: .agg (cellsOf .claimsFound y)::[])=some (.det True (.v (.int .i64 (dO x y)))):=by
 simp only[go_sem,Nat.reduceBEq]
theorem Bo:FnOkO Tryz.prog 55 qL:=
 vF (k:=.claimsFound) Tryz.sortLfh (fun w=>by kernel_rfl) (fun w=>by kernel_rfl) C7 (by decide) (g:=56) (caps:=[]) vY (cf:=dO) zZ zT (fun s hs=>by cases hs) ⟨default,default,zZ _ _⟩
end Go.Sx
end
section
namespace Go.Sx
open Go.Proofs
open IntKind (i64 u64)
theorem J9 {l0 l1:List Nat}(a0:JL l0)(a1:JL l1){p:Prop}(h:JL l0→JL l1→p:=by intro ja jb;simp only[go_sem,Nat.reduceBEq,Nat.reduceLeDiff,Nat.reduceLT,decide_true,Nat.reduceAdd,Nat.reduceSub,Nat.reduceMul,Int.reduceLE,Int.reduceLT,Int.reduceToNat,Int.reduceNeg,reduceCtorEq];all_goals exact gH ja jb):p:=h a0 a1
theorem C8 {l0 l1:List Nat}(a0:JL l0)(a1:JL l1){p:Prop}(h:JL l0→JL l1→p:=by intro ja jb;simp only[go_sem,Nat.reduceBEq,Nat.reduceLeDiff,Nat.reduceLT,decide_true,Nat.reduceAdd,Nat.reduceSub,Nat.reduceMul,Int.reduceLE,Int.reduceLT,Int.reduceToNat,Int.reduceNeg,reduceCtorEq,hc,hw];all_goals exact gH ja jb):p:=h a0 a1
theorem C9 {l0 l1:List Nat}(a0:JL l0)(a1:JL l1){p:Prop}(h:JL l0→JL l1→p:=by intro ja jb;simp only[go_sem,Nat.reduceBEq,Nat.reduceLeDiff,Nat.reduceLT,decide_true,Nat.reduceAdd,Nat.reduceSub,Nat.reduceMul,Int.reduceLE,Int.reduceLT,Int.reduceToNat,Int.reduceNeg,reduceCtorEq,hc];all_goals exact gH ja jb):p:=h a0 a1
@[go_sem] def dX (a0:District)(a1:List Deed)(a4:Int)(s_0:List ClaimsFound×Int)(z_1:Claim)(s_1:List ClaimsFound):Empty⊕(List ClaimsFound):=(bif(decide ((aV ((di a0 ((a0.farms.getD (Int.toNat z_1.farm) (default:Farm)).reach)).1) (be a0 s_0.2) z_1)≥0))then .inr (s_1++([({ claim:=z_1,reach:=(((di a0 ((a0.farms.getD (Int.toNat z_1.farm) (default:Farm)).reach)).1).getD (Int.toNat (aV ((di a0 ((a0.farms.getD (Int.toNat z_1.farm) (default:Farm)).reach)).1) (be a0 s_0.2) z_1)) (0:Int))}:ClaimsFound)]))else .inr (s_1++([({ claim:=z_1,reach:=(-1)}:ClaimsFound)])))
def eT (a0:District)(a1:List Deed)(a4:Int)(s_0:List ClaimsFound×Int)(z_1:Claim)(s_1:List ClaimsFound):Prop:=((0≤z_1.farm∧z_1.farm< (a0.farms.length:Int))∧((kR a0 ((a0.farms.getD (Int.toNat z_1.farm) (default:Farm)).reach))∧(((decide ((aV ((di a0 ((a0.farms.getD (Int.toNat z_1.farm) (default:Farm)).reach)).1) (be a0 s_0.2) z_1)≥0))=true→((0≤(aV ((di a0 ((a0.farms.getD (Int.toNat z_1.farm) (default:Farm)).reach)).1) (be a0 s_0.2) z_1)∧(aV ((di a0 ((a0.farms.getD (Int.toNat z_1.farm) (default:Farm)).reach)).1) (be a0 s_0.2) z_1) < (((di a0 ((a0.farms.getD (Int.toNat z_1.farm) (default:Farm)).reach)).1).length:Int))∧((s_1++([({ claim:=z_1,reach:=(((di a0 ((a0.farms.getD (Int.toNat z_1.farm) (default:Farm)).reach)).1).getD (Int.toNat (aV ((di a0 ((a0.farms.getD (Int.toNat z_1.farm) (default:Farm)).reach)).1) (be a0 s_0.2) z_1)) (0:Int))}:ClaimsFound)])).length*48≤eu)))∧((decide ((aV ((di a0 ((a0.farms.getD (Int.toNat z_1.farm) (default:Farm)).reach)).1) (be a0 s_0.2) z_1)≥0))=false→((s_1++([({ claim:=z_1,reach:=(-1)}:ClaimsFound)])).length*48≤eu)))))
@[go_sem] def eE (a0:District)(a1:List Deed)(a3:Int)(a4:Int)(k_0:Nat)(s_0:List ClaimsFound×Int):(List ClaimsFound)⊕(List ClaimsFound×Int):=(bif(decide (s_0.2≤a3))then(match ct (dX a0 a1 a4 s_0) (dK a0 a1 s_0.2 a4) s_0.1 with| .inl x=>x.elim| .inr s_1=>.inr (s_1,(i64.wrap (s_0.2+1))))else .inl s_0.1)
def gJ (a0:District)(a1:List Deed)(a3:Int)(a4:Int)(k_0:Nat)(s_0:List ClaimsFound×Int):Prop:=((decide (s_0.2≤a3))=true→((gI a0 a1 s_0.2 a4 ((dK a0 a1 s_0.2 a4).map uU))∧okL (dX a0 a1 a4 s_0) (eT a0 a1 a4 s_0) (dK a0 a1 s_0.2 a4) s_0.1))
def aD (a0:District)(a1:List Deed)(a2:Int)(a3:Int)(a4:Int):List ClaimsFound×Int:=(bif((ar a0 a1) !=0)then([],(ar a0 a1))else(bif(((((decide (a2<0)) ||(decide (a2 > a3))) ||(decide (a3≥a0.hours))) ||(decide (a4<0))) ||(decide (a4 > 1048576)))then([],1)else(bif(decide ((i64.wrap ((i64.wrap ((i64.wrap (a3 - a2))+1))*(a0.rights.length:Int))) > 4096))then([],2)else(match aq (eE a0 a1 a3 a4) 4098 0 ([],a2)with| .inl x_0_0=>((srt dO x_0_0),0) | .inr s_0=>default))))
def iG (a0:District)(a1:List Deed)(a2:Int)(a3:Int)(a4:Int):Prop:=((f_ a0 a1)∧(((ar a0 a1) !=0)=false→((((((decide (a2<0)) ||(decide (a2 > a3))) ||(decide (a3≥a0.hours))) ||(decide (a4<0))) ||(decide (a4 > 1048576)))=false→(a0.rights.length≤a7→((decide ((i64.wrap ((i64.wrap ((i64.wrap (a3 - a2))+1))*(a0.rights.length:Int))) > 4096))=false→(okI (eE a0 a1 a3 a4) (gJ a0 a1 a3 a4) 4098 0 ([],a2)∧(∀ z_,aq (eE a0 a1 a3 a4) 4098 0 ([],a2)≠ .inr z_)∧(∀ x_0_0,aq (eE a0 a1 a3 a4) 4098 0 ([],a2)=.inl x_0_0→(apart dO x_0_0))))))))
@[go_sem] def o4:List SV→Option Con:=(pD .district fun a0=>(pR .deed fun a1=>(pI fun a2=>(pI fun a3=>(pI fun a4=>(pE (.det (iG a0 a1 a2 a3 a4) (.tup [.nw .claimsFound ((aD a0 a1 a2 a3 a4).1),.v (.int .i64 ((aD a0 a1 a2 a3 a4).2))]))))))))
theorem Ur {l0 l1:List Nat}(a0:JL l0)(a1:JL l1){p:Prop}(h:JL l0→JL l1→p:=by intro ja jb;simp only[go_sem,Nat.reduceBEq,Nat.reduceLeDiff,Nat.reduceLT,decide_true,Nat.reduceAdd,Nat.reduceSub,Nat.reduceMul,Int.reduceLE,Int.reduceLT,Int.reduceToNat,Int.reduceNeg,reduceCtorEq,dc,dX,psT,uU,List.cons_append,List.nil_append];all_goals exact gH ja jb):p:=h a0 a1
theorem NV {l0 l1:List Nat}(a0:JL l0)(a1:JL l1){p:Prop}(h:JL l0→JL l1→p:=by intro ja jb;simp only[go_sem,Nat.reduceBEq,Nat.reduceLeDiff,Nat.reduceLT,decide_true,Nat.reduceAdd,Nat.reduceSub,Nat.reduceMul,Int.reduceLE,Int.reduceLT,Int.reduceToNat,Int.reduceNeg,reduceCtorEq,dc];all_goals exact gH ja jb):p:=h a0 a1
theorem Us {p:Prop}(h:p:=by simp only[go_sem,Nat.reduceBEq,Nat.reduceLeDiff,Nat.reduceLT,decide_true,Nat.reduceAdd,Nat.reduceSub,Nat.reduceMul,Int.reduceLE,Int.reduceLT,Int.reduceToNat,Int.reduceNeg,reduceCtorEq,dc];all_goals exact cl):p:=h
theorem se:FnOk Tryz.prog 29 o4:=by
 have hG:ConsOk Tryz.prog (mkG [(26,fun l=>kC (dH [.st .district,.sl .deed] l)),(46,fun l=>r9 (dH [.st .district,.o] l)),(50,fun l=>qn (dH [.st .district,.o] l)),(51,fun l=>sd (dH [.st .district,.sl .deed,.o,.o] l)),(52,fun l=>dc (dH [.sl .int,.o] l))] [(55,qL)]):=ay (cgc (nu.norm [.st .district,.sl .deed]) (cgc (ya.norm [.st .district,.o]) (cgc (vW.norm [.st .district,.o]) (cgc (yj.norm [.st .district,.sl .deed,.o,.o]) (cgc (lH.norm [.sl .int,.o]) cg0))))) (cgc Bo cg0);refine oS [(.cell 10 77,.claimsFound)] mixed an hG (fn:=Tryz.f29) (c:=ae Tryz.f29) kr kr kr kr (aW fun a0=>(ef fun a1=>(bY fun a2=>(bY fun a3=>(bY fun a4=>(aG (fun hp=>?_)))))));dsimp only[aF]at hp;unfold iG at hp;refine⟨nbl rfl,(fun id st=>bif Nat.beq id 0 then some (LCV (ρ:=(List ClaimsFound)) (σ:=(List ClaimsFound×Int)) 2 [.cell 1 0 (.row .claimsFound ([]))] [0,1,2] (fun k_0 s_0=>⟨[(1,.rs .deed a1),(3,.v (.int .i64 a3)),(4,.v (.int .i64 a4)),(5,.ptr 0 0),(10,.ptr 1 0),(12,.v (.int .i64 s_0.2))],[.cells (cellsOf .district a0),.cells [.os 2],.row .claimsFound s_0.1]⟩) (eE a0 a1 a3 a4) (gJ a0 a1 a3 a4) 4098 ([],a2) (fun _=>.normal) (fun x_0_0=>⟨[(10,.ptr 1 0)],[.dead,.cells [.os 2],.row .claimsFound x_0_0]⟩) st)else none),?_,?_⟩
 ·unfold ae Tryz.f29;simp only[am,true_and,and_true]
  ·refine fu mixed an hG kr (fun _=>rfl) fun k_0 s_0 hq0=>⟨(fun id st=>bif Nat.beq id 2 then some (LC (ρ:=Empty) (σ:=List ClaimsFound) (lk 1 st.t=.rs .deed a1∧lk 3 st.t=.v (.int .i64 a3)∧lk 4 st.t=.v (.int .i64 a4)∧lk 5 st.t=.ptr 0 0∧lk 10 st.t=.ptr 1 0∧lk 12 st.t=.v (.int .i64 s_0.2)∧lk 13 st.t=.ptr 6 0∧lk 68 st.t=.fn 87 [] [.ep (cellsOf .district a0) 0,.ep [.rs .deed a1] 0,.ep [.v (.int .i64 s_0.2)] 0,.ep [.v (.int .i64 a4)] 0]∧st.h=[.cells (cellsOf .district a0),.cells [.os 2],.row .claimsFound s_0.1,.mp .int .int ((be a0 s_0.2).owners) none,.mp .claimsUse .bool ((be a0 s_0.2).owned) none,.mp .claimsUse .bool ((be a0 s_0.2).eased) none,.cells [.os 3,.os 4,.os 5]]∧gI a0 a1 s_0.2 a4 ((dK a0 a1 s_0.2 a4).map uU)∧okL (dX a0 a1 a4 s_0) (eT a0 a1 a4 s_0) (dK a0 a1 s_0.2 a4) s_0.1) (ct (dX a0 a1 a4 s_0) (dK a0 a1 s_0.2 a4) s_0.1) (fun x=>x.elim) (fun x=>x.elim) (fun s_1=>⟨[(1,.rs .deed a1),(3,.v (.int .i64 a3)),(4,.v (.int .i64 a4)),(5,.ptr 0 0),(10,.ptr 1 0),(12,.v (.int .i64 s_0.2)),(13,.ptr 6 0)],[.cells (cellsOf .district a0),.cells [.os 7],.dead,.mp .int .int ((be a0 s_0.2).owners) none,.mp .claimsUse .bool ((be a0 s_0.2).owned) none,.mp .claimsUse .bool ((be a0 s_0.2).eased) none,.cells [.os 3,.os 4,.os 5],.row .claimsFound s_1]⟩))else none),?_,?_⟩
   ·simp only[am,true_and,and_true]
    ·refine uD mixed an hG (by decide) (by decide) kr kr fun st lc hC hp=>?_;simp only[go_sem,Nat.reduceBEq,Option.some.injEq]at hC;subst hC;obtain⟨t,h⟩:=st;dsimp only[LC]at hp;obtain⟨e1_0,e1_1,e1_2,e1_3,e1_4,e1_5,e1_6,e1_7,rfl,hb1,hok1⟩:=hp;refine⟨87,[.ep (cellsOf .district a0) 0,.ep [.rs .deed a1] 0,.ep [.v (.int .i64 s_0.2)] 0,.ep [.v (.int .i64 a4)] 0],Claim,_,_,(dK a0 a1 s_0.2 a4),uU,(dX a0 a1 a4 s_0),(eT a0 a1 a4 s_0),_,s_0.1,_,_,_,[(1,.rs .deed a1),(3,.v (.int .i64 a3)),(4,.v (.int .i64 a4)),(5,.ptr 0 0),(10,.ptr 1 0),(12,.v (.int .i64 s_0.2)),(13,.ptr 6 0)],(fun s_1=>[.cells (cellsOf .district a0),.cells [.os 7],.dead,.mp .int .int ((be a0 s_0.2).owners) none,.mp .claimsUse .bool ((be a0 s_0.2).owned) none,.mp .claimsUse .bool ((be a0 s_0.2).eased) none,.cells [.os 3,.os 4,.os 5],.row .claimsFound s_1]),(fun x=>x.elim),[0,1,2,3,4,5,6,2],?_,rfl,hok1,nbl rfl,?_,uV a0 a1 s_0.2 a4 _ hb1,fun z_1 s_1 hq1=>⟨rfl,L0,fun l=>?_,fun l=>?_,?_⟩,fun s_1=>?_,fun y=>?_⟩
     ·simp only[go_sem,e1_0,e1_1,e1_2,e1_3,e1_4,e1_5,e1_6,e1_7]
     ·simp only[go_sem,Nat.reduceBEq,Nat.reduceLeDiff,Nat.reduceLT,decide_true,Nat.reduceAdd,Nat.reduceSub,Nat.reduceMul,Int.reduceLE,Int.reduceLT,Int.reduceToNat,Int.reduceNeg,reduceCtorEq,qd,jq,List.flatMap_cons,List.flatMap_nil,List.nil_append,List.append_nil,List.map_nil,e1_0,e1_1,e1_2,e1_3,e1_4,e1_5,e1_6,e1_7];all_goals (first|done|decide|(repeat' (first|refine And.intro ?_ ?_|rfl|decide)))
     ·simp only[am,and_self,true_and,and_true]
     ·simp only[am,and_self,true_and,and_true]
     ·unfold eT at hq1;exact Ur (jl [0,1,2,3,4,5,6,12]) (jl [0,1,2,3,4,5,6,7])
     ·exact NV (jl [0,1,2,3,4,5,6,12]) (jl [0,1,2,3,4,5,6,7])
     ·exact NV (jl [0,1,2,3,4,5,6,12]) (jl [0,1,2,3,4,5,6,7])
   ·unfold gJ at hq0;exact J9 (jl [0,1,7]) (jl [0,1,2])
 ·unfold ae Tryz.f29;try unfold aD
  exact Us
@[go_sem] def j6 (d:District)(l_:List Deed)(fr:Int)(to:Int)(known:Int)(k_0:Nat)(s_0:List Claim):Empty⊕(List Claim):=(bif(decide ((((aD d l_ fr to known).1).getD k_0 (default:ClaimsFound)).reach<0))then .inr (s_0++([(((aD d l_ fr to known).1).getD k_0 (default:ClaimsFound)).claim]))else .inr s_0)
def mP (d:District)(l_:List Deed)(fr:Int)(to:Int)(known:Int)(k_0:Nat)(s_0:List Claim):Prop:=((decide ((((aD d l_ fr to known).1).getD k_0 (default:ClaimsFound)).reach<0))=true→((s_0++([(((aD d l_ fr to known).1).getD k_0 (default:ClaimsFound)).claim])).length*40≤eu))
def gO (d:District)(l_:List Deed)(fr:Int)(to:Int)(known:Int):List Claim×Int:=(bif((aD d l_ fr to known).2 !=0)then([],(aD d l_ fr to known).2)else(match aq (j6 d l_ fr to known) (((aD d l_ fr to known).1).length) 0 ([])with| .inl x=>x.elim| .inr s_0=>(bif(decide ((s_0.length:Int) > 4096))then([],2)else(s_0,0))))
def jD (d:District)(l_:List Deed)(fr:Int)(to:Int)(known:Int):Prop:=((iG d l_ fr to known)∧(((aD d l_ fr to known).2 !=0)=false→(((aD d l_ fr to known).1).length≤a7→okI (j6 d l_ fr to known) (mP d l_ fr to known) (((aD d l_ fr to known).1).length) 0 ([]))))
@[go_sem] def vH:List SV→Option Con:=(pD .district fun d=>(pR .deed fun l_=>(pI fun fr=>(pI fun to=>(pI fun known=>(pE (.det (jD d l_ fr to known) (.tup [.nw .claim ((gO d l_ fr to known).1),.v (.int .i64 ((gO d l_ fr to known).2))]))))))))
theorem Bp:FnOk Tryz.prog 12 vH:=by
 have hG:ConsOk Tryz.prog (mkG [(29,fun l=>o4 (dH [.st .district,.sl .deed,.o,.o,.o] l))] []):=ay (cgc (se.norm [.st .district,.sl .deed,.o,.o,.o]) cg0) cg0;refine oS [(.tmp 10,.claim)] mixed an hG (fn:=Tryz.f12) (c:=ae Tryz.f12) kr kr kr kr (aW fun d=>(ef fun l_=>(bY fun fr=>(bY fun to=>(bY fun known=>(aG (fun hp=>?_)))))));dsimp only[aF]at hp;unfold jD at hp;refine⟨nbl rfl,(fun id st=>bif Nat.beq id 0 then some (LCR (ρ:=Empty) (σ:=(List Claim)) 2 [.slot 10 (.row .claim ([]))] [0,1,2] (fun k_0 s_0=>⟨[(10,.os 2),(27,.os 1),(28,.v (.int .i64 (((aD d l_ fr to known).1).length:Int))),(29,.v (.int .i64 (k_0:Int)))],[.dead,.row .claimsFound ((aD d l_ fr to known).1),.row .claim s_0]⟩) (j6 d l_ fr to known) (mP d l_ fr to known) (((aD d l_ fr to known).1).length) ([]) (((aD d l_ fr to known).1).length≤a7) ((·.elim)) ((·.elim)) st)else none),?_,?_⟩
 ·unfold ae Tryz.f12;simp only[am,true_and,and_true]
  ·refine dg mixed an hG kr (fun _=>rfl) (((aD d l_ fr to known).1).length:Int) rfl iO (fun hb0 k_0 s_0 hlt0 hq0 hw hc=>⟨L0,ai _,?_⟩) (fun hb0 s_0 hc=>?_)
   ·unfold mP at hq0;try simp only[hw,Int.toNat_natCast]at hq0
    exact C8 (jl [0,1,5]) (jl [0,1,2])
   ·exact C9 (jl [0,1,5]) (jl [0,1,2])
 ·unfold ae Tryz.f12;try unfold gO
  exact zq1
@[go_sem] def fN (d:District)(l_:List Deed)(fr:Int)(to:Int)(known:Int)(k_0:Nat)(s_0:List Block):Empty⊕(List Block):=(bif(decide ((((aD d l_ fr to known).1).getD k_0 (default:ClaimsFound)).reach≥0))then .inr (s_0++([({ right:=(((aD d l_ fr to known).1).getD k_0 (default:ClaimsFound)).claim.right,farm:=(((aD d l_ fr to known).1).getD k_0 (default:ClaimsFound)).claim.farm,hour:=(((aD d l_ fr to known).1).getD k_0 (default:ClaimsFound)).claim.hour,reach:=(((aD d l_ fr to known).1).getD k_0 (default:ClaimsFound)).reach}:Block)]))else .inr s_0)
def iS (d:District)(l_:List Deed)(fr:Int)(to:Int)(known:Int)(k_0:Nat)(s_0:List Block):Prop:=((decide ((((aD d l_ fr to known).1).getD k_0 (default:ClaimsFound)).reach≥0))=true→((s_0++([({ right:=(((aD d l_ fr to known).1).getD k_0 (default:ClaimsFound)).claim.right,farm:=(((aD d l_ fr to known).1).getD k_0 (default:ClaimsFound)).claim.farm,hour:=(((aD d l_ fr to known).1).getD k_0 (default:ClaimsFound)).claim.hour,reach:=(((aD d l_ fr to known).1).getD k_0 (default:ClaimsFound)).reach}:Block)])).length*32≤eu))
def aM (d:District)(l_:List Deed)(fr:Int)(to:Int)(known:Int):List Block×Int:=(bif((aD d l_ fr to known).2 !=0)then([],(aD d l_ fr to known).2)else(match aq (fN d l_ fr to known) (((aD d l_ fr to known).1).length) 0 ([])with| .inl x=>x.elim| .inr s_0=>(bif(decide ((s_0.length:Int) > 4096))then([],2)else(s_0,0))))
def fm (d:District)(l_:List Deed)(fr:Int)(to:Int)(known:Int):Prop:=((iG d l_ fr to known)∧(((aD d l_ fr to known).2 !=0)=false→(((aD d l_ fr to known).1).length≤a7→okI (fN d l_ fr to known) (iS d l_ fr to known) (((aD d l_ fr to known).1).length) 0 ([]))))
@[go_sem] def kE:List SV→Option Con:=(pD .district fun d=>(pR .deed fun l_=>(pI fun fr=>(pI fun to=>(pI fun known=>(pE (.det (fm d l_ fr to known) (.tup [.nw .block ((aM d l_ fr to known).1),.v (.int .i64 ((aM d l_ fr to known).2))]))))))))
theorem nC:FnOk Tryz.prog 14 kE:=by
 have hG:ConsOk Tryz.prog (mkG [(29,fun l=>o4 (dH [.st .district,.sl .deed,.o,.o,.o] l))] []):=ay (cgc (se.norm [.st .district,.sl .deed,.o,.o,.o]) cg0) cg0;refine oS [(.tmp 10,.block)] mixed an hG (fn:=Tryz.f14) (c:=ae Tryz.f14) kr kr kr kr (aW fun d=>(ef fun l_=>(bY fun fr=>(bY fun to=>(bY fun known=>(aG (fun hp=>?_)))))));dsimp only[aF]at hp;unfold fm at hp;refine⟨nbl rfl,(fun id st=>bif Nat.beq id 0 then some (LCR (ρ:=Empty) (σ:=(List Block)) 2 [.slot 10 (.row .block ([]))] [0,1,2] (fun k_0 s_0=>⟨[(10,.os 2),(27,.os 1),(28,.v (.int .i64 (((aD d l_ fr to known).1).length:Int))),(29,.v (.int .i64 (k_0:Int)))],[.dead,.row .claimsFound ((aD d l_ fr to known).1),.row .block s_0]⟩) (fN d l_ fr to known) (iS d l_ fr to known) (((aD d l_ fr to known).1).length) ([]) (((aD d l_ fr to known).1).length≤a7) ((·.elim)) ((·.elim)) st)else none),?_,?_⟩
 ·unfold ae Tryz.f14;simp only[am,true_and,and_true]
  ·refine dg mixed an hG kr (fun _=>rfl) (((aD d l_ fr to known).1).length:Int) rfl iO (fun hb0 k_0 s_0 hlt0 hq0 hw hc=>⟨L0,ai _,?_⟩) (fun hb0 s_0 hc=>?_)
   ·unfold iS at hq0;try simp only[hw,Int.toNat_natCast]at hq0
    exact C8 (jl [0,1,5]) (jl [0,1,2])
   ·exact C9 (jl [0,1,5]) (jl [0,1,2])
 ·unfold ae Tryz.f14;try unfold aM
  exact zq1
theorem wb {ρ σ:Type}{step:Nat→σ→ρ⊕σ}{p:Nat→σ→Prop}(m:σ→Nat)(J:σ→Prop)(Q:ρ→Prop)(h:∀ k s,J s→p k s∧((∃ r,step k s=.inl r∧Q r)∨∃ s',step k s=.inr s'∧m s'<m s∧J s')):∀ (n i:Nat) (s:σ),J s→m s<n→okI step p n i s∧∃ r,aq step n i s=.inl r∧Q r
 |0,_,_,_,hm=>absurd hm (Nat.not_lt_zero _)
 |n+1,i,s,hJ,hm=>by
  obtain⟨h1,h2⟩:=h i s hJ;rcases h2 with⟨r,e,hq⟩ | ⟨s',e,hlt,hJ'⟩
  ·refine⟨⟨h1,fun s'' e'=>?_⟩,r,?_,hq⟩
   ·rw[e]at e';cases e'
   ·simp only[aq,e]
  ·obtain⟨q1,q2⟩:=wb m J Q h n (i+1) s' hJ' (by omega);refine⟨⟨h1,fun s'' e'=>?_⟩,?_⟩
   ·rw[e]at e';cases e';exact q1
   ·simp only[aq,e];exact q2
theorem vI {ρ σ:Type}{x:ρ⊕σ}{Q:ρ→Prop}(h:∃ r,x=.inl r∧Q r):∀ z,x≠ .inr z:=fun z e=>by
 obtain⟨r,e1,_⟩:=h;rw[e1]at e;cases e
theorem Gh (a b:Deed):decide (cD a b<0)=decide (a.at_<b.at_):=by
 unfold cD;rw[nt];by_cases h:a.at_<b.at_
 ·simp[h]
 ·by_cases h2:a.at_ > b.at_ <;>simp[h,h2]
theorem jm {α:Type}(A:List α)(x d:α)(T:List α){i:Nat}(h:i=A.length):(A++x::T).getD i d=x:=by
 subst h;simp[List.getD_eq_getElem?_getD]
theorem o5 {α:Type}(A:List α)(x y:α)(T:List α){i:Nat}(h:i=A.length):(A++x::T).set i y=A++y::T:=by
 subst h;simp
def SameF (l l':List Deed):Prop:= ∀ t:Int,l.filter (fun x=>x.at_==t)=l'.filter fun x=>x.at_==t
theorem SameF.refl (l:List Deed):SameF l l:=fun _=>rfl
theorem SameF.trans {a b c:List Deed}(h1:SameF a b)(h2:SameF b c):SameF a c:=fun t=>(h1 t).trans (h2 t)
theorem SameF.app {a b c d:List Deed}(h1:SameF a b)(h2:SameF c d):SameF (a++c) (b++d):=fun t=>by rw[List.filter_append,List.filter_append,h1 t,h2 t]
theorem SameF.swap {a b:List Deed}(h:∀ x∈a,∀ y∈b,x.at_≠y.at_):SameF (a++b) (b++a):=fun t=>by
 rw[List.filter_append,List.filter_append];by_cases ha:a.filter (fun x=>x.at_==t)=[]
 ·rw[ha];simp
 ·have hb:b.filter (fun x=>x.at_==t)=[]:=by
   rw[List.filter_eq_nil_iff];intro y hy hyt;obtain⟨x,hx⟩:=List.exists_mem_of_ne_nil _ ha;rw[List.mem_filter]at hx;have e1:x.at_=t:=by simpa using hx.2
   have e2:y.at_=t:=by simpa using hyt
   exact h x hx.1 y hy (by rw[e1,e2])
  rw[hb];simp
def Srt (l:List Deed):Prop:=l.Pairwise fun x y=>x.at_≤y.at_
theorem HJ (A S R:List Deed)(x:Deed)(l_:List Deed)(hl:(A++S++x::R).length<2 ^ 62)(hfuel:(A++S++x::R).length=l_.length):
  okI (aI A.length l_) (a8 A.length l_) (l_.length+1) 0 (A++S++x::R,((A.length+S.length:Nat):Int))∧
  ∃ r,aq (aI A.length l_) (l_.length+1) 0 (A++S++x::R,((A.length+S.length:Nat):Int))=.inl r∧
   ∃ S1 S2,S=S1++S2∧r=A++S1++x::(S2++R)∧(∀ y∈S2,x.at_<y.at_)∧∀ y,S1.getLast? =some y→y.at_≤x.at_:=by
 refine wb (fun s:List Deed×Int=>(s.2 - (A.length:Int)).toNat) (fun s:List Deed×Int=>∃ S1 S2,S=S1++S2∧s=(A++S1++x::(S2++R),((A.length+S1.length:Nat):Int))∧∀ y∈S2,x.at_<y.at_) (fun r=>∃ S1 S2,S=S1++S2∧r=A++S1++x::(S2++R)∧(∀ y∈S2,x.at_<y.at_)∧∀ y,S1.getLast? =some y→y.at_≤x.at_) ?_ _ _ _ ⟨S,[],by simp,by simp,by simp⟩ (by simp only[List.length_append,List.length_cons]at hl hfuel;omega);rintro k s ⟨S1,S2,hS,rfl,hlt⟩;simp only[List.length_append,List.length_cons]at hl hfuel;have hlen:S.length=S1.length+S2.length:=by rw[hS,List.length_append]
 rcases List.eq_nil_or_concat S1 with rfl| ⟨S1',y,rfl⟩
 ·unfold a8 aI;have e:decide (((A.length+([]:List Deed).length:Nat):Int) > A.length)=false:=by simp
  refine⟨⟨fun h=>?_,fun h=>?_,fun h=>?_⟩,.inl ⟨_,?_,[],S2,hS,rfl,hlt,fun y hy=>by simp at hy⟩⟩
  ·rw[e]at h;cases h
  ·rw[e]at h;cases h
  ·rw[e]at h;cases h
  ·simp only[e,Bool.false_and,cond_false]
 ·simp only[List.concat_eq_append,List.length_append,List.length_cons,List.length_nil]at hlen ⊢;have w:i64.wrap (((A.length+(S1'.length+(0+1)):Nat):Int) - 1)=((A.length+S1'.length:Nat):Int):=by rw[bt (by omega) (by omega)];omega
  have e:decide (((A.length+(S1'.length+(0+1)):Nat):Int) > A.length)=true:=by rw[decide_eq_true_eq];omega
  have g1:(A++(S1'++[y])++x::(S2++R)).getD (A.length+(S1'.length+(0+1))) default=x:=jm _ _ _ _ (by simp);have hr:A++(S1'++[y])++x::(S2++R)=(A++S1')++y::x::(S2++R):=by simp
  have g2:(A++(S1'++[y])++x::(S2++R)).getD (A.length+S1'.length) default=y:=by rw[hr];exact jm _ _ _ _ (by simp)
  have hL:(A++(S1'++[y])++x::(S2++R)).length=A.length+(S1'.length+1)+(S2.length+R.length+1):=by simp;omega
  unfold a8 aI;simp only[w,Int.toNat_natCast,g1,g2,Gh,e,Bool.true_and,List.length_set,hL];refine⟨⟨fun _=>by omega,fun _=>by omega,fun _=>by omega⟩,?_⟩;by_cases h:x.at_<y.at_
  ·right;rw[decide_eq_true h,cond_true];refine⟨_,rfl,by simp only;omega,S1',y::S2,by rw[hS];simp,?_,fun z hz=>?_⟩
   ·rw[o5 (A++(S1'++[y])) x y (S2++R) (by simp)];have:A++(S1'++[y])++y::(S2++R)=(A++S1')++y::y::(S2++R):=by simp
    rw[this,o5 (A++S1') y x _ (by simp)];simp
   ·rcases List.mem_cons.1 hz with rfl|hz
    ·exact h
    ·exact hlt z hz
  ·left;rw[decide_eq_false h,cond_false];exact⟨_,rfl,S1'++[y],S2,hS.trans (by simp),by simp,hlt,fun z hz=>by simp at hz;subst hz;omega⟩
theorem J_ {l:List Deed}{c:Int}(h:Srt l)(hl:∀ y,l.getLast? =some y→y.at_≤c):∀ z∈l,z.at_≤c:=fun z hz=>by
 rcases List.eq_nil_or_concat l with rfl| ⟨l',y,rfl⟩
 ·cases hz
 ·rw[List.concat_eq_append]at h hz hl;have hy:=hl y (by simp);unfold Srt at h;rw[List.pairwise_append]at h;rcases List.mem_append.1 hz with hz|hz
  ·exact Int.le_trans (h.2.2 z hz y (by simp)) hy
  ·simp at hz;subst hz;exact hy
theorem MU {S1 S2:List Deed}{x:Deed}(h:Srt (S1++S2))(h2:∀ y∈S2,x.at_<y.at_)(h1:∀ z∈S1,z.at_≤x.at_):Srt (S1++x::S2):=by
 unfold Srt at h ⊢;rw[List.pairwise_append]at h ⊢;refine⟨h.1,List.pairwise_cons.2 ⟨fun y hy=>Int.le_of_lt (h2 y hy),h.2.1⟩,fun z hz y hy=>?_⟩;rcases List.mem_cons.1 hy with rfl|hy
 ·exact h1 z hz
 ·exact h.2.2 z hz y hy
theorem z6 (A M R:List Deed)(hl:(A++M++R).length<2 ^ 62):
  aL A.length ((A.length+M.length:Nat):Int) (A++M++R)∧
  ∃ M',ax A.length ((A.length+M.length:Nat):Int) (A++M++R)=A++M'++R∧SameF M M'∧Srt M':=by
 have hlen:(A++M++R).length=A.length+M.length+R.length:=by simp[Nat.add_assoc]
 have w0:i64.wrap ((A.length:Int)+1)=((A.length+1:Nat):Int):=by rw[bt (by omega) (by omega)];omega
 have key:okI (aB A.length ((A.length+M.length:Nat):Int) (A++M++R)) (aQ A.length ((A.length+M.length:Nat):Int) (A++M++R)) ((A++M++R).length+1) 0 (A++M++R,((A.length+1:Nat):Int))∧
   ∃ r,aq (aB A.length ((A.length+M.length:Nat):Int) (A++M++R)) ((A++M++R).length+1) 0 (A++M++R,((A.length+1:Nat):Int))=.inl r∧∃ M',r=A++M'++R∧SameF M M'∧Srt M':=by
  refine wb (fun s:List Deed×Int=>(((A.length+M.length:Nat):Int) - s.2).toNat) (fun s:List Deed×Int=>(M=[]∧s=(A++M++R,((A.length+1:Nat):Int)))∨∃ S T,s=(A++S++(T++R),((A.length+S.length:Nat):Int))∧SameF M (S++T)∧Srt S∧M.length=S.length+T.length) (fun r=>∃ M',r=A++M'++R∧SameF M M'∧Srt M') ?_ _ _ _ ?_ (by simp only;omega)
  ·rintro k s (⟨rfl,rfl⟩ | ⟨S,T,rfl,hF,hS,hMl⟩)
   ·unfold aQ aB;have e:decide (((A.length+1:Nat):Int) < ((A.length+([]:List Deed).length:Nat):Int))=false:=by rw[decide_eq_false_iff_not];simp only[List.length_nil];omega
    refine⟨fun h=>?_,.inl ⟨_,?_,[],rfl,SameF.refl _,List.Pairwise.nil⟩⟩
    ·rw[e]at h;cases h
    ·simp only[e,cond_false]
   ·cases T with
    |nil=>
     unfold aQ aB;have e:decide (((A.length+S.length:Nat):Int) < ((A.length+M.length:Nat):Int))=false:=by rw[decide_eq_false_iff_not];simp only[List.length_nil]at hMl;omega
     refine⟨fun h=>?_,.inl ⟨A++S++([]++R),?_,S,by simp,by simpa using hF,hS⟩⟩
     ·rw[e]at h;cases h
     ·simp only[e,cond_false]
    |cons x T=>
     simp only[List.length_cons]at hMl;have e:decide (((A.length+S.length:Nat):Int) < ((A.length+M.length:Nat):Int))=true:=by rw[decide_eq_true_eq];omega
     have hl2:(A++S++x::(T++R)).length=(A++M++R).length:=by simp;omega
     obtain⟨i1,r,i2,S1,S2,rfl,rfl,i3,i4⟩:=HJ A S (T++R) x (A++M++R) (by omega) hl2;have hS1:Srt S1:=(List.pairwise_append.1 hS).1;have w:i64.wrap (((A.length+(S1++S2).length:Nat):Int)+1)=((A.length+(S1++x::S2).length:Nat):Int):=by
      rw[bt (by omega) (by simp only[List.length_append]at *;omega)];simp only[List.length_append,List.length_cons];omega
     unfold aQ aB;refine⟨fun _=>⟨i1,vI (Q:=fun _=>True) ⟨_,i2,trivial⟩⟩,.inr ⟨_,?_,?_,.inr ⟨S1++x::S2,T,rfl,?_,MU hS i3 (J_ hS1 i4),by simp only[List.length_append,List.length_cons]at *;omega⟩⟩⟩
     ·simp only[e,cond_true,List.cons_append];rw[i2];simp only[w];simp
     ·simp only[List.length_append,List.length_cons]at *;omega
     ·refine hF.trans ?_;have h0:SameF (S2++[x]) ([x]++S2):=SameF.swap fun y hy z hz=>by simp at hz;subst hz;have:=i3 y hy;omega
      have:=((SameF.refl S1).app h0).app (SameF.refl T);simpa using this
  ·cases M with
   |nil=>exact .inl ⟨rfl,rfl⟩
   |cons x T=>exact .inr ⟨[x],T,by simp,by simpa using SameF.refl _,List.pairwise_singleton _ _,by simp;omega⟩
 obtain⟨k1,r,k2,M',rfl,k3,k4⟩:=key;unfold aL ax;rw[w0];refine⟨⟨k1,vI (Q:=fun _=>True) ⟨_,k2,trivial⟩⟩,M',?_,k3,k4⟩;rw[k2]
theorem Bq (A X B Y C:List Deed)(hxy:X.length=Y.length)(hl:(A++X++B++Y++C).length<2 ^ 62):
  aO A.length ((A.length+X.length+B.length:Nat):Int) X.length (A++X++B++Y++C)∧
  aS A.length ((A.length+X.length+B.length:Nat):Int) X.length (A++X++B++Y++C)=A++Y++B++X++C:=by
 have hlen:(A++X++B++Y++C).length=A.length+X.length+B.length+Y.length+C.length:=by simp[Nat.add_assoc]
 have step:∀ j s,0≤j→j<0+Int.toNat (X.length:Int)→(∃ X1 X2 Y1 Y2,X=X1++X2∧Y=Y1++Y2∧X1.length=j∧Y1.length=j∧s=A++Y1++X2++B++X1++Y2++C)→
   bP A.length ((A.length+X.length+B.length:Nat):Int) X.length j s∧∀ s',bC A.length ((A.length+X.length+B.length:Nat):Int) X.length j s=.inr s'→∃ X1 X2 Y1 Y2,X=X1++X2∧Y=Y1++Y2∧X1.length=j+1∧Y1.length=j+1∧s'=A++Y1++X2++B++X1++Y2++C:=by
  rintro j s _ hj ⟨X1,X2,Y1,Y2,hX,hY,h1,h2,rfl⟩;rw[Int.toNat_natCast,Nat.zero_add]at hj;have l1:X.length=X1.length+X2.length:=by rw[hX,List.length_append]
  have l2:Y.length=Y1.length+Y2.length:=by rw[hY,List.length_append]
  match X2,Y2,l1,l2,hX,hY with
  | [],_,l1,_,_,_=>simp at l1;omega
  |_::_,[],_,l2,_,_=>simp at l2;omega
  |x::X2,y::Y2,l1,l2,hX,hY=>
   simp only[List.length_cons]at l1 l2;have w1:i64.wrap ((A.length:Int)+(j:Int))=((A.length+j:Nat):Int):=by rw[bt (by omega) (by omega)];omega
   have w2:i64.wrap (((A.length+X.length+B.length:Nat):Int)+(j:Int))=((A.length+X.length+B.length+j:Nat):Int):=by rw[bt (by omega) (by omega)];omega
   have r1:A++Y1++x::X2++B++X1++y::Y2++C=(A++Y1)++x::(X2++B++X1++y::(Y2++C)):=by simp
   have r2:A++Y1++x::X2++B++X1++y::Y2++C=(A++Y1++x::X2++B++X1)++y::(Y2++C):=by simp
   have g1:(A++Y1++x::X2++B++X1++y::Y2++C).getD (A.length+j) default=x:=by rw[r1];exact jm _ _ _ _ (by simp;omega)
   have g2:(A++Y1++x::X2++B++X1++y::Y2++C).getD (A.length+X.length+B.length+j) default=y:=by rw[r2];exact jm _ _ _ _ (by simp;omega)
   have hL:(A++Y1++x::X2++B++X1++y::Y2++C).length=A.length+X.length+B.length+Y.length+C.length:=by simp;omega
   unfold bP bC;simp only[w1,w2,Int.toNat_natCast,g1,g2,List.length_set,hL];refine⟨by omega,fun s' e=>?_⟩;cases e;refine⟨X1++[x],X2,Y1++[y],Y2,by rw[hX];simp,by rw[hY];simp,by simp[h1],by simp[h2],?_⟩;rw[r1,o5 (A++Y1) x y _ (by simp;omega)];have r3:A++Y1++y::(X2++B++X1++y::(Y2++C))=(A++Y1++y::X2++B++X1)++y::(Y2++C):=by simp
   rw[r3,o5 _ y x _ (by simp;omega)];simp
 have h0:∃ X1 X2 Y1 Y2,X=X1++X2∧Y=Y1++Y2∧X1.length=0∧Y1.length=0∧A++X++B++Y++C=A++Y1++X2++B++X1++Y2++C:=⟨[],X,[],Y,rfl,rfl,rfl,rfl,by simp⟩;have hJ:=xG (fun k s=>∃ X1 X2 Y1 Y2,X=X1++X2∧Y=Y1++Y2∧X1.length=k∧Y1.length=k∧s=A++Y1++X2++B++X1++Y2++C) (Int.toNat (X.length:Int)) 0 _ h0 (fun j s a b c=>(step j s a b c).2);unfold aO aS;refine⟨⟨by omega,wn (fun k s=>∃ X1 X2 Y1 Y2,X=X1++X2∧Y=Y1++Y2∧X1.length=k∧Y1.length=k∧s=A++Y1++X2++B++X1++Y2++C) _ 0 _ h0 step⟩,?_⟩;cases hr:aq (bC A.length ((A.length+X.length+B.length:Nat):Int) X.length) (Int.toNat (X.length:Int)) 0 (A++X++B++Y++C)with
 |inl x=>exact x.elim
 |inr r=>
  obtain⟨X1,X2,Y1,Y2,rfl,rfl,h1,h2,rfl⟩:=hJ r hr;rw[Int.toNat_natCast,Nat.zero_add]at h1 h2;have e1:X2=[]:=List.eq_nil_of_length_eq_zero (by rw[List.length_append]at h1;omega);have e2:Y2=[]:=List.eq_nil_of_length_eq_zero (by rw[hxy,List.length_append]at h2;omega);subst e1;subst e2;simp
theorem HK (A U V C:List Deed)(hU:U≠[])(hV:V≠[])(hl:(A++U++V++C).length<2 ^ 62):
  bj A.length ((A.length+U.length:Nat):Int) ((A.length+U.length+V.length:Nat):Int) (A++U++V++C)∧
  av A.length ((A.length+U.length:Nat):Int) ((A.length+U.length+V.length:Nat):Int) (A++U++V++C)=A++V++U++C:=by
 have hlen:(A++U++V++C).length=A.length+U.length+V.length+C.length:=by simp[Nat.add_assoc]
 have w1:i64.wrap (((A.length+U.length:Nat):Int) - (A.length:Int))=(U.length:Int):=by rw[bt (by omega) (by omega)];omega
 have w2:i64.wrap (((A.length+U.length+V.length:Nat):Int) - ((A.length+U.length:Nat):Int))=(V.length:Int):=by rw[bt (by omega) (by omega)];omega
 have hm:∀ {M:Nat},M=A.length+U.length→∀ {F:List Deed},F=A++V++U++C→okI (bf A.length (M:Int) ((A.length+U.length+V.length:Nat):Int)) (ca A.length (M:Int) ((A.length+U.length+V.length:Nat):Int)) (Int.toNat (((A.length+U.length+V.length:Nat):Int) - (A.length:Int))+1) 0 (A++U++V++C,(U.length:Int),(V.length:Int))∧
   ∃ r,aq (bf A.length (M:Int) ((A.length+U.length+V.length:Nat):Int)) (Int.toNat (((A.length+U.length+V.length:Nat):Int) - (A.length:Int))+1) 0 (A++U++V++C,(U.length:Int),(V.length:Int))=.inl r∧∃ A1 U1 V1 C1,r=((U1.length:Int),A1++U1++V1++C1)∧U1.length=V1.length∧A1.length+U1.length=M∧A1++V1++U1++C1=F:=by
  intro M hM F hF;refine wb (fun s:List Deed×Int×Int=>(s.2.1+s.2.2).toNat) (fun s:List Deed×Int×Int=>∃ A1 U1 V1 C1,s=(A1++U1++V1++C1,(U1.length:Int),(V1.length:Int))∧U1≠[]∧V1≠[]∧A1.length+U1.length=M∧A1++V1++U1++C1=F) _ ?_ _ _ _ ⟨A,U,V,C,rfl,hU,hV,hM.symm,hF.symm⟩ (by simp only;omega);rintro k s ⟨A1,U1,V1,C1,rfl,hU1,hV1,hM1,hF1⟩;have hFl:A1.length+V1.length+U1.length+C1.length<2 ^ 62:=by
   have:=congrArg List.length (hF1.trans hF);simp only[List.length_append]at this hl;omega
  have pU:0<U1.length:=List.length_pos_iff.2 hU1;have pV:0<V1.length:=List.length_pos_iff.2 hV1;unfold ca bf;have v1:i64.wrap ((M:Int) - (U1.length:Int))=(A1.length:Int):=by rw[bt (by omega) (by omega)];omega
  by_cases he:U1.length=V1.length
  ·have b1:(((U1.length:Int)) !=((V1.length:Int)))=false:=by simp[he]
   refine⟨fun h=>?_,.inl ⟨_,?_,A1,U1,V1,C1,rfl,he,hM1,hF1⟩⟩
   ·simp only[b1]at h;cases h
   ·simp only[b1,cond_false]
  ·have b1:(((U1.length:Int)) !=((V1.length:Int)))=true:=by simp only[bne_iff_ne,ne_eq];omega
   by_cases hgt:V1.length<U1.length
   ·have b2:decide (((U1.length:Int)) > ((V1.length:Int)))=true:=by rw[decide_eq_true_eq];omega
    have v2:i64.wrap ((U1.length:Int) - (V1.length:Int))=((U1.drop V1.length).length:Int):=by rw[bt (by omega) (by omega),List.length_drop];omega
    have hsp:U1=U1.take V1.length++U1.drop V1.length:=(List.take_append_drop _ _).symm;have ht:(U1.take V1.length).length=V1.length:=by rw[List.length_take];omega
    have hd:(U1.drop V1.length).length=U1.length - V1.length:=List.length_drop;have hsw:=Bq A1 (U1.take V1.length) (U1.drop V1.length) V1 C1 ht (by simp only[List.length_append,ht,hd];omega);have e1:A1++U1.take V1.length++U1.drop V1.length++V1++C1=A1++U1++V1++C1:=by rw[List.append_assoc A1,List.take_append_drop]
    have e2:((A1.length+(U1.take V1.length).length+(U1.drop V1.length).length:Nat):Int)=(M:Int):=by rw[ht,hd];omega
    rw[e1,e2,ht]at hsw;simp only[b1,b2,v1,v2,cond_true];refine⟨fun _=>⟨fun _=>hsw.1,fun h=>by cases h⟩,.inr ⟨_,rfl,by simp only[hd];omega,A1++V1,U1.drop V1.length,U1.take V1.length,C1,?_,fun h=>?_,fun h=>?_,?_,?_⟩⟩
    ·rw[hsw.2,ht]
    ·rw[h]at hd;simp at hd;omega
    ·rw[h]at ht;simp at ht;omega
    ·rw[List.length_append,hd];omega
    ·rw[←hF1,List.append_assoc (A1++V1),List.take_append_drop]
   ·have b2:decide (((U1.length:Int)) > ((V1.length:Int)))=false:=by rw[decide_eq_false_iff_not];omega
    have v2:i64.wrap ((V1.length:Int) - (U1.length:Int))=((V1.take (V1.length - U1.length)).length:Int):=by rw[bt (by omega) (by omega),List.length_take];omega
    have v3:i64.wrap (i64.wrap ((M:Int)+(V1.length:Int)) - (U1.length:Int))=((A1.length+U1.length+(V1.take (V1.length - U1.length)).length:Nat):Int):=by
     rw[bt (n:=(M:Int)+(V1.length:Int)) (by omega) (by omega),bt (by omega) (by omega),List.length_take];omega
    have ht:(V1.take (V1.length - U1.length)).length=V1.length - U1.length:=by rw[List.length_take];omega
    have hd:(V1.drop (V1.length - U1.length)).length=U1.length:=by rw[List.length_drop];omega
    have hsw:=Bq A1 U1 (V1.take (V1.length - U1.length)) (V1.drop (V1.length - U1.length)) C1 hd.symm (by simp only[List.length_append,ht,hd];omega);have e1:A1++U1++V1.take (V1.length - U1.length)++V1.drop (V1.length - U1.length)++C1=A1++U1++V1++C1:=by rw[List.append_assoc (A1++U1),List.take_append_drop]
    rw[e1]at hsw;simp only[b1,b2,v1,v2,v3,cond_true,cond_false];refine⟨fun _=>⟨(fun h=>by cases h),fun _=>hsw.1⟩,.inr ⟨_,rfl,by simp only[ht];omega,A1,V1.drop (V1.length - U1.length),V1.take (V1.length - U1.length),U1++C1,?_,fun h=>?_,fun h=>?_,by rw[hd];exact hM1,?_⟩⟩
    ·rw[hsw.2,hd];simp
    ·rw[h]at hd;simp at hd;omega
    ·rw[h]at ht;simp at ht;omega
    ·rw[←hF1,List.append_assoc A1,List.take_append_drop];simp
 obtain⟨k1,r,k2,A1,U1,V1,C1,rfl,q1,q2,q3⟩:=hm rfl rfl;have hFl:A1.length+V1.length+U1.length+C1.length<2 ^ 62:=by
  have:=congrArg List.length q3;simp only[List.length_append]at this hl;omega
 have v1:i64.wrap (((A.length+U.length:Nat):Int) - (U1.length:Int))=(A1.length:Int):=by rw[bt (by omega) (by omega)];omega
 have hsw:=Bq A1 U1 [] V1 C1 q1 (by simp only[List.length_append,List.length_nil];omega);have e2:((A1.length+U1.length+([]:List Deed).length:Nat):Int)=((A.length+U.length:Nat):Int):=by rw[List.length_nil];omega
 rw[e2]at hsw;simp only[List.append_nil]at hsw;unfold bj av;rw[w1,w2];refine⟨⟨k1,vI (Q:=fun _=>True) ⟨_,k2,trivial⟩,fun x hx=>?_⟩,?_⟩
 ·rw[k2]at hx;cases hx;simp only[v1];exact hsw.1
 ·rw[k2];simp only[v1];rw[hsw.2,q3]
theorem half {i j:Int}(h0:0≤i)(h1:i≤j)(h2:j≤2305843009213693952):i64.wrap (br .u64 (u64.wrap (i64.wrap (i+j))) 1)=(i+j) / 2:=by
 have e0:i64.wrap (i+j)=i+j:=bt (by omega) (by omega);have e:u64.wrap (i+j)=i+j:=by
  unfold IntKind.wrap;simp[IntKind.bits,IntKind.signed];omega
 have e2:br .u64 (i+j) 1=(i+j) / 2:=by
  show Int.fdiv (i+j) ((2:Int) ^ min (Int.toNat 1) u64.bits)=_;have:(2:Int) ^ min (Int.toNat 1) u64.bits=2:=by decide
  rw[this,Int.fdiv_eq_ediv_of_nonneg _ (by omega)]
 rw[e0,e,e2,bt (by omega) (by omega)]
theorem Gi {i j:Nat}(h1:i≤j)(h2:j<2 ^ 61):i64.wrap (br .u64 (u64.wrap (i64.wrap ((i:Int)+(j:Int)))) 1)=(((i+j) / 2:Nat):Int):=by
 rw[half (by omega) (by omega) (by omega)];omega
theorem ER {step:Nat→Int×Int→Int⊕(Int×Int)}{p:Nat→Int×Int→Prop}(P:Nat→Bool)(lo hi:Nat)(hlh:lo≤hi)(hmono:∀ x y,lo≤x→x≤y→y<hi→P y=true→P x=true)
  (hstep:∀ k (i j:Nat),lo≤i→i<j→j≤hi→p k ((i:Int),(j:Int))∧step k ((i:Int),(j:Int))=bif P ((i+j) / 2)then .inr ((((i+j) / 2+1:Nat):Int),(j:Int))else .inr ((i:Int),(((i+j) / 2:Nat):Int)))
  (hstop:∀ k (i:Nat),p k ((i:Int),(i:Int))∧step k ((i:Int),(i:Int))=.inl (i:Int)) (n k:Nat) (hn:hi - lo<n):
  okI step p n k ((lo:Int),(hi:Int))∧∃ r,aq step n k ((lo:Int),(hi:Int))=.inl r∧∃ q:Nat,r=(q:Int)∧lo≤q∧q≤hi∧(∀ x,lo≤x→x<q→P x=true)∧∀ x,q≤x→x<hi→P x=false:=by
 refine wb (fun s:Int×Int=>(s.2 - s.1).toNat) (fun s:Int×Int=>∃ i j:Nat,s=((i:Int),(j:Int))∧lo≤i∧i≤j∧j≤hi∧(∀ x,lo≤x→x<i→P x=true)∧∀ x,j≤x→x<hi→P x=false) _ ?_ n k _ ⟨lo,hi,rfl,Nat.le_refl _,hlh,Nat.le_refl _,fun x h1 h2=>by omega,fun x h1 h2=>by omega⟩ (by simp only;omega);rintro k s ⟨i,j,rfl,h1,h2,h3,h4,h5⟩;by_cases h:i<j
 ·obtain⟨q1,q2⟩:=hstep k i j h1 h h3;refine⟨q1,.inr ?_⟩;have hm1:i≤(i+j) / 2:=by omega
  have hm2:(i+j) / 2<j:=by omega
  cases hP:P ((i+j) / 2)with
  |true=>
   rw[hP]at q2;refine⟨_,q2,by simp only;omega,(i+j) / 2+1,j,rfl,by omega,by omega,h3,fun x hx1 hx2=>?_,h5⟩;exact hmono x _ hx1 (by omega) (by omega) hP
  |false=>
   rw[hP]at q2;refine⟨_,q2,by simp only;omega,i,(i+j) / 2,rfl,h1,hm1,by omega,h4,fun x hx1 hx2=>?_⟩;cases hx:P x with
   |false=>rfl
   |true=>rw[hmono _ x (by omega) hx1 hx2 hx]at hP;cases hP
 ·have e:i=j:=by omega
  subst e;obtain⟨q1,q2⟩:=hstop k i;exact⟨q1,.inl ⟨_,q2,i,rfl,h1,h3,h4,h5⟩⟩
theorem Ka (A V C:List Deed)(x:Deed)(l_:List Deed)(hl:(A++x::V++C).length<2 ^ 62)(hfuel:(A++x::V++C).length=l_.length):
  okI (oV l_ ((A.length+1+V.length:Nat):Int)) (ol l_ ((A.length+1+V.length:Nat):Int)) (l_.length+1) 0 (A++x::V++C,(A.length:Int))∧
  ∃ r,aq (oV l_ ((A.length+1+V.length:Nat):Int)) (l_.length+1) 0 (A++x::V++C,(A.length:Int))=.inl r∧r=A++V++x::C:=by
 have hlen:(A++x::V++C).length=A.length+V.length+C.length+1:=by simp;omega
 have w0:i64.wrap (((A.length+1+V.length:Nat):Int) - 1)=((A.length+V.length:Nat):Int):=by rw[bt (by omega) (by omega)];omega
 refine wb (fun s:List Deed×Int=>(((A.length+V.length:Nat):Int) - s.2).toNat) (fun s:List Deed×Int=>∃ V1 V2,V=V1++V2∧s=(A++V1++x::(V2++C),((A.length+V1.length:Nat):Int))) (fun r=>r=A++V++x::C) ?_ _ _ _ ⟨[],V,rfl,by simp⟩ (by simp only;omega);rintro k s ⟨V1,V2,hV,rfl⟩;have hVl:V.length=V1.length+V2.length:=by rw[hV,List.length_append]
 unfold ol oV;rw[w0];cases V2 with
 |nil=>
  have e:decide (((A.length+V1.length:Nat):Int) < ((A.length+V.length:Nat):Int))=false:=by rw[decide_eq_false_iff_not,hVl,List.length_nil];omega
  refine⟨fun h=>?_,.inl ⟨A++V1++x::([]++C),?_,by rw[hV];simp⟩⟩
  ·simp only[e]at h;cases h
  ·simp only[e,cond_false]
 |cons y V2=>
  simp only[List.length_cons]at hVl;have e:decide (((A.length+V1.length:Nat):Int) < ((A.length+V.length:Nat):Int))=true:=by rw[decide_eq_true_eq];omega
  have w1:i64.wrap (((A.length+V1.length:Nat):Int)+1)=((A.length+V1.length+1:Nat):Int):=by rw[bt (by omega) (by omega)];omega
  have g1:(A++V1++x::(y::V2++C)).getD (A.length+V1.length) default=x:=jm _ _ _ _ (by simp);have r1:A++V1++x::(y::V2++C)=(A++V1++[x])++y::(V2++C):=by simp
  have g2:(A++V1++x::(y::V2++C)).getD (A.length+V1.length+1) default=y:=by rw[r1];exact jm _ _ _ _ (by simp;omega)
  have hL:(A++V1++x::(y::V2++C)).length=A.length+V.length+C.length+1:=by simp;omega
  simp only[e,w1,Int.toNat_natCast,g1,g2,List.length_set,hL,cond_true];refine⟨fun _=>by omega,.inr ⟨_,rfl,by simp only;omega,V1++[y],V2,by rw[hV];simp,?_⟩⟩;rw[o5 (A++V1) x y _ (by simp)];have r2:A++V1++y::(y::V2++C)=(A++V1++[y])++y::(V2++C):=by simp
  rw[r2,o5 (A++V1++[y]) y x _ (by simp;omega)];simp[Nat.add_assoc]
theorem ES (A U C:List Deed)(x:Deed)(l_:List Deed)(hl:(A++U++x::C).length<2 ^ 62)(hfuel:(A++U++x::C).length=l_.length):
  okI (oW l_ (A.length:Int)) (oo l_ (A.length:Int)) (l_.length+1) 0 (A++U++x::C,((A.length+U.length:Nat):Int))∧
  ∃ r,aq (oW l_ (A.length:Int)) (l_.length+1) 0 (A++U++x::C,((A.length+U.length:Nat):Int))=.inl r∧r=A++x::(U++C):=by
 have hlen:(A++U++x::C).length=A.length+U.length+C.length+1:=by simp;omega
 refine wb (fun s:List Deed×Int=>(s.2 - (A.length:Int)).toNat) (fun s:List Deed×Int=>∃ W1 W2,U=W1++W2∧s=(A++W1++x::(W2++C),((A.length+W1.length:Nat):Int))) (fun r=>r=A++x::(U++C)) ?_ _ _ _ ⟨U,[],by simp,by simp⟩ (by simp only;omega);rintro k s ⟨W1,W2,hU,rfl⟩;have hUl:U.length=W1.length+W2.length:=by rw[hU,List.length_append]
 unfold oo oW;rcases List.eq_nil_or_concat W1 with rfl| ⟨W1,y,rfl⟩
 ·have e:decide (((A.length+([]:List Deed).length:Nat):Int) > (A.length:Int))=false:=by simp
  refine⟨fun h=>?_,.inl ⟨A++[]++x::(W2++C),?_,by rw[hU];simp⟩⟩
  ·simp only[e]at h;cases h
  ·simp only[e,cond_false]
 ·simp only[List.concat_eq_append,List.length_append,List.length_cons,List.length_nil]at hUl hU ⊢;have e:decide (((A.length+(W1.length+(0+1)):Nat):Int) > (A.length:Int))=true:=by rw[decide_eq_true_eq];omega
  have w1:i64.wrap (((A.length+(W1.length+(0+1)):Nat):Int) - 1)=((A.length+W1.length:Nat):Int):=by rw[bt (by omega) (by omega)];omega
  have g1:(A++(W1++[y])++x::(W2++C)).getD (A.length+(W1.length+(0+1))) default=x:=jm _ _ _ _ (by simp);have r1:A++(W1++[y])++x::(W2++C)=(A++W1)++y::x::(W2++C):=by simp
  have g2:(A++(W1++[y])++x::(W2++C)).getD (A.length+W1.length) default=y:=by rw[r1];exact jm _ _ _ _ (by simp)
  have hL:(A++(W1++[y])++x::(W2++C)).length=A.length+U.length+C.length+1:=by simp;omega
  simp only[e,w1,Int.toNat_natCast,g1,g2,List.length_set,hL,cond_true];refine⟨fun _=>by omega,.inr ⟨_,rfl,by simp only;omega,W1,y::W2,by rw[hU];simp,?_⟩⟩;rw[o5 (A++(W1++[y])) x y _ (by simp)];have r2:A++(W1++[y])++y::(W2++C)=(A++W1)++y::y::(W2++C):=by simp
  rw[r2,o5 (A++W1) y x _ (by simp)];simp
theorem tZ {α:Type}(A V C:List α)(d:α){h:Nat}(h1:A.length≤h)(h2:h<A.length+V.length):(A++V++C).getD h d=V.getD (h - A.length) d:=by
 simp only[List.getD_eq_getElem?_getD];rw[List.append_assoc,List.getElem?_append_right h1,List.getElem?_append_left (by omega)]
theorem wq {α:Type}(l:List α)(d:α){n:Nat}(h:n<l.length):l.getD n d=l[n]:=by
 simp[List.getD_eq_getElem?_getD,List.getElem?_eq_getElem h]
theorem lu {V:List Deed}(h:Srt V){i j:Nat}(h1:i≤j)(h2:j<V.length):(V.getD i default).at_≤(V.getD j default).at_:=by
 rcases Nat.eq_or_lt_of_le h1 with rfl|h1
 ·exact Int.le_refl _
 ·rw[wq V _ (by omega),wq V _ h2];exact List.pairwise_iff_getElem.1 h i j (by omega) h2 h1
theorem t6 {V:List Deed}{k:Nat}{y:Deed}(h:y∈V.take k):∃ i,i<k∧i<V.length∧y=V.getD i default:=by
 obtain⟨i,hi,e⟩:=List.mem_iff_getElem.1 h;rw[List.length_take]at hi;refine⟨i,by omega,by omega,?_⟩;rw[wq V _ (by omega),←e,List.getElem_take]
theorem t7 {V:List Deed}{k:Nat}{y:Deed}(h:y∈V.drop k):∃ i,k≤i∧i<V.length∧y=V.getD i default:=by
 obtain⟨i,hi,e⟩:=List.mem_iff_getElem.1 h;rw[List.length_drop]at hi;refine⟨k+i,by omega,by omega,?_⟩;rw[wq V _ (by omega),←e,List.getElem_drop]
theorem wr {a b:List Deed}(h:Srt (a++b)):Srt a∧Srt b∧∀ x∈a,∀ y∈b,x.at_≤y.at_:=List.pairwise_append.1 h
theorem yk {a b:List Deed}(h1:Srt a)(h2:Srt b)(h3:∀ x∈a,∀ y∈b,x.at_≤y.at_):Srt (a++b):=List.pairwise_append.2 ⟨h1,h2,h3⟩
def NW (n:Nat)(rec_:Int→Int→Int→List Deed→List Deed)(recp_:Int→Int→Int→List Deed→Prop):Prop:=
 ∀ A U V C:List Deed,U≠[]→V≠[]→U.length+V.length≤n→(A++U++V++C).length<2 ^ 60→Srt U→Srt V→
  recp_ (A.length:Int) ((A.length+U.length:Nat):Int) ((A.length+U.length+V.length:Nat):Int) (A++U++V++C)∧
  ∃ M,rec_ (A.length:Int) ((A.length+U.length:Nat):Int) ((A.length+U.length+V.length:Nat):Int) (A++U++V++C)=A++M++C∧SameF (U++V) M∧Srt M∧M.length=U.length+V.length
theorem ET (rec_:Int→Int→Int→List Deed→List Deed)(recp_:Int→Int→Int→List Deed→Prop)(A V C:List Deed)(x:Deed)(hl:(A++[x]++V++C).length<2 ^ 60)(hV:Srt V):
  oX rec_ recp_ (A.length:Int) ((A.length+1:Nat):Int) ((A.length+1+V.length:Nat):Int) (A++[x]++V++C)∧
  ∃ M,Ba rec_ recp_ (A.length:Int) ((A.length+1:Nat):Int) ((A.length+1+V.length:Nat):Int) (A++[x]++V++C)=A++M++C∧SameF ([x]++V) M∧Srt M∧M.length=1+V.length:=by
 have hL:(A++[x]++V++C).length=A.length+V.length+C.length+1:=by simp;omega
 have w:i64.wrap (((A.length+1:Nat):Int) - (A.length:Int))=1:=by rw[bt (by omega) (by omega)];omega
 have gx:(A++[x]++V++C).getD A.length default=x:=by
  have:A++[x]++V++C=A++x::(V++C):=by simp
  rw[this];exact jm _ _ _ _ rfl
 have gV:∀ h,A.length+1≤h→h<A.length+1+V.length→(A++[x]++V++C).getD h default=V.getD (h - (A.length+1)) default:=fun h h1 h2=>by
  have:=tZ (A++[x]) V C default (h:=h) (by simp;omega) (by simp;omega);simpa using this
 have s:=ER (step:=jX (A.length:Int) (A++[x]++V++C)) (p:=mj (A.length:Int) (A++[x]++V++C)) (fun h=>decide ((V.getD (h - (A.length+1)) default).at_<x.at_)) (A.length+1) (A.length+1+V.length) (by omega)
  (fun i j h1 h2 h3 h4=>by
   have:=lu hV (i:=i - (A.length+1)) (j:=j - (A.length+1)) (by omega) (by omega);simp only[decide_eq_true_eq]at h4 ⊢;omega)
  (fun k i j h1 h2 h3=>by
   have e:decide ((i:Int) < (j:Int))=true:=by rw[decide_eq_true_eq];omega
   unfold mj jX;simp only[Gi (i:=i) (j:=j) (by omega) (by omega),e,cond_true,Int.toNat_natCast,gx,gV ((i+j) / 2) (by omega) (by omega),Gh,hL];have w2:i64.wrap ((((i+j) / 2:Nat):Int)+1)=(((i+j) / 2+1:Nat):Int):=by rw[bt (by omega) (by omega)];omega
   rw[w2];exact⟨fun _=>by omega,rfl⟩)
  (fun k i=>by
   have e:decide ((i:Int) < (i:Int))=false:=by simp
   unfold mj jX;simp only[e,cond_false];exact⟨fun h=>by simp at h,trivial⟩) ((A++[x]++V++C).length+1) 0 (by omega)
 obtain⟨s1,r,s2,q,rfl,q1,q2,q3,q4⟩:=s;have ht:(V.take (q - (A.length+1))).length=q - (A.length+1):=by rw[List.length_take];omega
 have hVs:V.take (q - (A.length+1))++V.drop (q - (A.length+1))=V:=List.take_append_drop _ _;have hd1:∀ y∈V.take (q - (A.length+1)),y.at_<x.at_:=fun y hy=>by
  obtain⟨i,i1,i2,rfl⟩:=t6 hy;have:=q3 (A.length+1+i) (by omega) (by omega);simpa[show A.length+1+i - (A.length+1)=i by omega]using this
 have hd2:∀ y∈V.drop (q - (A.length+1)),x.at_≤y.at_:=fun y hy=>by
  obtain⟨i,i1,i2,rfl⟩:=t7 hy;have:=q4 (A.length+1+i) (by omega) (by omega);simpa[show A.length+1+i - (A.length+1)=i by omega]using this
 generalize hV1:V.take (q - (A.length+1))=V1 at *;generalize hV2:V.drop (q - (A.length+1))=V2 at *;subst hVs;have eq:A++[x]++(V1++V2)++C=A++x::V1++(V2++C):=by simp
 obtain⟨c1,r,c2,rfl⟩:=Ka A V1 (V2++C) x (A++[x]++(V1++V2)++C) (by rw[←eq];omega) (by rw[eq]);have eqq:((A.length+1+V1.length:Nat):Int)=(q:Int):=by rw[ht];omega
 rw[←eq,eqq]at c1 c2;unfold oX Ba;rw[w];refine⟨⟨fun _=>⟨s1,vI (Q:=fun _=>True) ⟨_,s2,trivial⟩,fun z hz=>?_⟩,fun h=>by cases h⟩,V1++[x]++V2,?_,?_,?_,?_⟩
 ·rw[s2]at hz;cases hz;exact⟨c1,vI (Q:=fun _=>True) ⟨_,c2,trivial⟩⟩
 ·rw[s2];simp only[BEq.rfl,cond_true];rw[c2];simp
 ·have h0:SameF ([x]++V1) (V1++[x]):=SameF.swap fun a ha b hb=>by simp at ha;subst ha;have:=hd1 b hb;omega
  simpa using h0.app (SameF.refl V2)
 ·obtain⟨a1,a2,a3⟩:=wr hV;refine yk (yk a1 (List.pairwise_singleton _ _) fun y hy z hz=>?_) a2 fun y hy z hz=>?_
  ·simp at hz;subst hz;exact Int.le_of_lt (hd1 y hy)
  ·rcases List.mem_append.1 hy with hy|hy
   ·exact a3 y hy z hz
   ·simp at hy;subst hy;exact hd2 z hz
 ·simp;omega
end Go.Sx
end
