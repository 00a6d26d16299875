/- Part of the proof that the law RegisterOrder returns true and leaves its arguments as they were, for all arguments of bulk at most 1048576 (the Upto form). -/
import Derived.Test.YthcbieoehjhjfaaGreatQ210
import Derived.Test.YthcbieoehjhjfaaGreatQ208
import Derived.Shelf.SlSortCmp.NoneTotal
import Derived.Test.YthcbieoehjhjfaaGreatQ209
import Derived.Shelf.SortM.Plain
import Derived.Shelf.SortM.SortNone
import Derived.Ground.SlgmProg
import Derived.Shelf.SlGeneric
import Derived.Test.YthcbieoehjhjfaaGreatProg
import Derived.Ground.SlsfProg
import Derived.Test.YthcbieoehjhjfaaGreatQ207
set_option linter.all false
set_option maxHeartbeats 4000000
set_option maxRecDepth 100000
section
namespace Go.Sx
theorem nJ (p:Program)(listen:Bool)(fr:Frame)(callers:List Frame)(dying:Option Dying)(s:Sem Next)(w:World):gLe w (Go.stepG.apply p listen fr callers dying s w):=by
 unfold Go.stepG.apply
 extract_lets go kind
 have hr:∃ r es,(if listen=true then s.runT p w #[]else(s.run p w,#[]))=(r,es)/\w.drawn<=(KF r).drawn:=by
  split
  ·rcases h:s.runT p w #[]with⟨r,es⟩;exact⟨r,es,rfl,kz h⟩
  ·exact⟨_,_,rfl,xa p s w⟩
 obtain⟨r,es,he,h⟩:=hr;rw[he];dsimp only;refine gLe.after ?_;have hgo:∀ fr w0,w.drawn<=w0.drawn->gLe w (go fr w0):=fun fr w0 h0=>h0;split
 all_goals first|exact h|trivial|exact hgo _ _ h|exact gLe.trans h (rI _ _ _ _ _ _) |exact gLe.trans h (lz _ _ _) |exact gLe.trans h (ET _ _ _ _ _ _) |skip
 all_goals first|(refine qf (gLe.trans h (lz _ _ _)) ?_;exact h) |(split <;>first|exact h|trivial|exact hgo _ _ h)
theorem HJ (p:Program)(listen:Bool)(fr:Frame)(callers:List Frame)(dying:Option Dying)(w:World):gLe w (Go.stepG.oper p listen fr callers dying w):=by
 unfold Go.stepG.oper;split
 ·trivial
 ·split
  ·exact nJ _ _ _ _ _ _ _
  ·exact nJ _ _ _ _ _ _ _
theorem Bu {α:Type}{w:World}{o:Option α}{a:GStep}{f:α->GStep}(h1:gLe w a)(h2:∀ x,gLe w (f x)):gLe w (o.elim a f):=by cases o;exact h1;exact h2 _
theorem HK (p:Program)(main listen:Bool)(fr:Frame)(callers:List Frame)(dying:Option Dying)(w:World):gLe w (Go.stepG.exec p main listen fr callers dying w):=by
 unfold Go.stepG.exec
 extract_lets go to lost leave
 have hgo:∀ fr w0,w.drawn<=w0.drawn->gLe w (go fr w0):=fun fr w0 h0=>h0;have hto:∀ k,gLe w (to k):=fun k=>Nat.le_refl _;have hlost:∀ m,gLe w (lost m):=fun _=>trivial;have hleave:∀ j,gLe w (leave j):=fun j=>by
  show gLe w (match fr.roundOf with|none=>_|some l=>_);split
  ·refine qf (hgo _ _ (Nat.le_refl _)) trivial
  ·rcases h:(Instr.endRound _ j).runT p w #[]with⟨r,es⟩;have h:=kz h;dsimp only;refine gLe.after ?_;split
   ·exact gLe.trans h (nI _ _ _ _ _ _ _)
   ·trivial
 have hgo1:∀ fr,gLe w (go fr w):=fun fr=>Nat.le_refl _
 clear_value to lost leave
 split
 all_goals first|exact hleave _|exact hto _|exact hlost _|trivial|exact Bu (hleave _) hto|exact nJ _ _ _ _ _ _ _|exact Bu (hlost _) (fun _=>nJ _ _ _ _ _ _ _) |skip
 ·split
  ·exact hto _
  ·exact hlost _
 ·rcases h:(Instr.enterLoop fr.fn fr.tmps _ _ _ fr.roundOf).runT p w #[]with⟨r,es⟩;have h:=kz h;dsimp only;refine gLe.after ?_;split
  ·exact gLe.trans h (nJ _ _ _ _ _ _ _)
  ·trivial
 ·rcases h:(Instr.endLoop _).runT p w #[]with⟨r,es⟩;have h:=kz h;dsimp only;refine gLe.after ?_;split
  ·exact hgo _ _ h
  ·exact hgo _ _ h
  ·trivial
 ·refine qf (hto _) ?_;split
  ·rename_i h;exact hgo _ _ (gC h)
  ·trivial
 ·exact qf (HJ _ _ _ _ _ _) (hgo1 _)
theorem EU (p:Program)(main:Bool)(g:Goroutine)(w:World)(listen:Bool):gLe w (Go.stepG p main g w listen):=by
 unfold Go.stepG;obtain⟨fr,callers,st,dying,off⟩:=g;dsimp only;split
 ·exact KH _ _ _ _
 ·exact HK _ _ _ _ _ _ _
 ·exact CE _ _ _ _ _ _
def sLe (w:World):Stepped->Prop
 | .next m=>w.drawn<=m.world.drawn
 | .ended .. =>True
theorem sLe.trans {w w':World}{s:Stepped}(h1:w.drawn<=w'.drawn)(h:sLe w' s):sLe w s:=by cases s <;>first|trivial|exact Nat.le_trans h1 h
theorem Bv {c:Prop}[Decidable c]{w:World}{a b:Stepped}(h1:sLe w a)(h2:sLe w b):sLe w (if c then a else b):=by split <;>assumption
theorem Bw (p:Program)(gs:Array Goroutine)(rest:Rest)(w:World):sLe w (look p gs rest w):=by
 unfold look;split
 ·extract_lets
  refine Bv trivial ?_;split
  ·trivial
  ·extract_lets
   split
   ·rename_i h;have h:=gC h;exact h
   ·trivial
   ·trivial
 ·trivial
theorem xb {rest:Rest}{cases:Array CommCase}{w w':World}(h:waitingAt rest cases w=some w'):w.drawn<=w'.drawn:=by
 unfold waitingAt at h;split at h
 ·split at h
  ·cases h;exact Nat.le_refl _
  ·cases h
 ·cases h;exact Nat.le_refl _
theorem t_ (p:Program)(rest:Rest)(gs:Array Goroutine)(i:Nat)(g:Goroutine)(cases:Array CommCase)(bl:Bool)(shape:CommShape)(w:World):sLe w (communicate p rest gs i g cases bl shape w).1:=by
 unfold communicate
 extract_lets put illMade me other
 have hput:∀ g gs w0 ops,w.drawn<=w0.drawn->sLe w (put g gs w0 ops).1:=fun _ _ _ _ h=>h;split
 ·trivial
 ·split
  ·split
   ·split
    ·rename_i h;exact xb h
    ·trivial
   ·exact hput _ _ _ _ (Nat.le_refl _)
  ·split
   ·trivial
   ·rename_i h;have hw:=gC h;clear h
    extract_lets r
    split
    ·split
     ·rename_i h2;exact hput _ _ _ _ (Nat.le_trans hw (ES h2))
     ·trivial
    ·exact hput _ _ _ _ hw
    ·exact hput _ _ _ _ hw
    ·extract_lets
     split
     ·exact hput _ _ _ _ hw
     ·split
      ·rename_i h2;have h3:=gC h2;exact hput _ _ _ _ (Nat.le_trans hw h3)
      ·trivial
    ·exact hput _ _ _ _ hw
    ·exact hput _ _ _ _ hw
    ·trivial
theorem vI (m:Machine)(k:Nat)(t:Timer)(a b:Nat):m.world.drawn<=(retime m k t a b).2.world.drawn:=by
 unfold retime drain;dsimp only
 repeat' split
 all_goals first|exact Nat.le_refl _|skip
 all_goals (simp_all;try omega)
theorem Ap {m m':Machine}{op:TimerOp}{v:Value}(h:timerOp m op=.ok (v,m')):m.world.drawn<=m'.world.drawn:=by
 have named:∀ (D:Nat) (m0:Machine) var f,(∀ k t,D<=(f k t).2.world.drawn)->timerOp.named m0 var f=.ok (v,m')->D<=m'.world.drawn:=fun D m0 var f hf h=>by
  unfold timerOp.named at h;split at h
  ·injection h with h;exact Nat.le_trans (hf _ _) (Nat.le_of_eq (congrArg (fun x:Value×Machine=>x.2.world.drawn) h))
  ·cases h
 unfold timerOp at h;split at h
 ·split at h
  ·cases h;exact Nat.le_refl _
  ·split at h
   ·split at h
    ·cases h
    ·cases h;exact Nat.le_refl _
   ·cases h
 ·exact named _ _ _ _ (fun k t=>vI _ _ _ _ _) h
 ·split at h
  ·rename_i m1 ho;have h1:m.world.drawn<=m1.world.drawn:=by
    unfold timerOp.opened at ho;split at ho
    ·split at ho
     ·cases ho;exact Nat.le_refl _
     ·cases ho
    ·cases ho;exact Nat.le_refl _
   exact Nat.le_trans h1 (named m1.world.drawn _ _ _ (fun k t=>vI _ _ _ _ _) h)
  ·cases h
 ·cases h;exact Nat.le_refl _
theorem EV (p:Program)(m:Machine)(i:Nat)(listen:Bool):sLe m.world (Go.runT p m i listen).1:=by
 unfold Go.runT
 extract_lets rest world
 split
 extract_lets wake fn pos s ops done
 have hs:gLe m.world s:=EU _ _ _ _ _;have hd:∀ r,(done r).1=r:=fun r=>rfl
 clear_value s done
 split
 all_goals try rw[hd]
 ·trivial
 ·split
  rename_i h;have:=t_ p rest ‹_› i ‹_› ‹_› ‹_› ‹_› ‹_›;rw[h]at this;exact sLe.trans hs this
 ·exact hs
 ·exact hs
 ·exact Bv trivial hs
 ·exact hs
 ·exact sLe.trans hs (Bw _ _ _ _)
 ·exact hs
 ·exact hs
 ·split
  ·exact hs
  ·split
   ·rename_i h;simp only[endThrow,dieOf]at h;cases h;exact hs
   ·trivial
  ·trivial
 ·split
  ·rename_i h;exact Nat.le_trans hs (Ap h)
  ·exact hs
  ·trivial
  ·trivial
theorem EW (p:Program)(m:Machine)(k:Nat):sLe m.world (serve p m k):=by
 unfold serve;split
 ·trivial
 ·exact Nat.le_refl _
 ·extract_lets
  split
  ·trivial
  ·exact Nat.le_refl _
def mLe (w:World):Move->Prop
 | .goroutine m _=>w.drawn<=m.world.drawn
 | .machine s _=>sLe w s
theorem mLe.trans {w w':World}{s:Move}(h1:w.drawn<=w'.drawn)(h:mLe w' s):mLe w s:=by
 cases s
 ·exact Nat.le_trans h1 h
 ·exact sLe.trans h1 h
theorem ua (p:Program)(m:Machine):mLe m.world (askOn p m):=by
 unfold askOn
 extract_lets mono rs ds pick
 have hpick:∀ m0:Machine,m.world.drawn<=m0.world.drawn->mLe m.world (pick m0):=fun m0 h0=>by
  show mLe m.world (match (choose (.sched rs.length)).run p m0.world with| .halt _ w=>_| .ok k world=>_);split
  ·trivial
  ·rename_i h;have h1:=gC h;split
   ·exact Nat.le_trans h0 h1
   ·split
    ·trivial
    ·rename_i h2;have h2:=gC h2;exact Nat.le_trans h0 (Nat.le_trans h1 h2)
 clear_value pick rs ds
 split
 ·trivial
 ·rename_i h;have hw:=gC h;clear h
  extract_lets m1
  split
  ·exact sLe.trans hw (EW p _ _)
  ·cases rs with
   |nil=>
    dsimp only;split
    ·exact hw
    ·split
     ·exact hw
     ·split <;>trivial
   |cons r rs=>
    dsimp only;split
    ·exact hpick _ hw
    ·split
     ·trivial
     ·rename_i h;have h2:=gC h;exact hpick _ (Nat.le_trans hw h2)
     ·rename_i h;have h2:=gC h;exact Nat.le_trans hw h2
     ·rename_i h;have h2:=gC h;exact hpick _ (Nat.le_trans hw h2)
theorem yN (p:Program)(m:Machine):mLe m.world (ask p m):=by
 unfold ask;split
 ·split
  ·trivial
  ·rename_i h;have hw:=gC h;have:=Bw p m.gs m.rest ‹World›;split
   ·rename_i m2 h2;rw[h2]at this;exact mLe.trans (Nat.le_trans hw this) (ua p _)
   ·rename_i e h2;exact sLe.trans hw this
  ·rename_i h;have hw:=gC h;exact mLe.trans hw (ua p _)
 ·exact ua p m
theorem HL (p:Program)(m:Machine):mLe m.world (move p m):=by
 unfold move;split
 ·split
  ·exact Nat.le_refl _
  ·trivial
 ·split
  ·split
   ·exact Nat.le_refl _
   ·exact yN p _
  ·exact yN p m
theorem HM (p:Program)(m:Machine):sLe m.world (step p m):=by
 unfold step stepT;have:=HL p m;split
 ·rename_i h;rw[h]at this;exact sLe.trans this (EV p _ _ _)
 ·rename_i h;rw[h]at this;exact this
theorem yO {p:Program}{m m':Machine}(h:Steps p m m'):m.world.drawn<=m'.world.drawn:=by
 obtain⟨n,hn⟩:=h;induction n generalizing m with
 |zero=>simp only[runN,Stepped.next.injEq]at hn;subst hn;exact Nat.le_refl _
 |succ n ih=>
  simp only[runN]at hn;have:=HM p m;cases hs:step p m with
  |next m1=>
   rw[hs]at hn this;exact Nat.le_trans this (ih hn)
  |ended o w=>rw[hs]at hn;cases hn
theorem yP {P:Program}{f:FuncId}{args:Array Value}{w:World}{R:Ending->World->Prop}(h:Calls P f args w R):Calls P f args w fun e w'=>R e w'/\(e≠ .outgrown->w.drawn<=w'.drawn):=by
 intro cs;obtain⟨e,w',fr,hr,hc,hf,hl⟩:=h cs;refine⟨e,w',fr,⟨hr,fun hne=>?_⟩,hc,hf,hl⟩;cases e with
 |returned v=>exact yO (p:=P) hc
 |panicked c=>exact yO (p:=P) hc
 |outgrown=>exact absurd rfl hne
end Go.Sx
end
section
namespace Go.Sx
open Go.Lib Go.Proofs Go.RowKit Go.Shelf Go.Sort
def II:SV->Value
 | .v x=>x
 |_=>undef
def kc (k:Tag)(x:k.T):List Value:=(cellsOf k x).map II
def ub (k:Tag):Prop:= ∀ (x:k.T) (s:SV),s∈cellsOf k x->∃ v,s=.v v/\v.oneCell'=true
def srt {α:Type}(cf:α->α->Int)(l:List α):List α:=l.mergeSort fun x y=>!(ltOf cf y x)
def apart {α:Type}(cf:α->α->Int)(l:List α):Prop:= ∀ x∈l,∀ y∈l,ltOf cf x y=false->ltOf cf y x=false->x=y
theorem Aq {α:Type}[Inhabited α]{cf:α->α->Int}(hO:SWO (ltOf cf)){l:List α}(h:apart cf l){d':Array α}(hp:PermIn 0 l.toArray.size l.toArray d')(hs:SortedIn (ltOf cf) 0 l.toArray.size d'):d'=(srt cf l).toArray:=by
 obtain⟨hsz,_,hperm⟩:=hp;have e1:d'.extract 0 l.toArray.size=d':=by rw[<-hsz];exact Array.extract_size
 rw[e1,Array.extract_size]at hperm;have hperm:d'.toList.Perm l:=by simpa using hperm
 have:d'.toList=srt cf l:=by
  refine List.Perm.eq_of_pairwise (le:=fun x y=>(!ltOf cf y x)=true) ?_ ?_ ?_ (hperm.trans (List.mergeSort_perm _ _).symm)
  ·intro a b ha hb h1 h2;simp only[Bool.not_eq_true']at h1 h2;exact h a (hperm.subset ha) b ((List.mergeSort_perm _ _).subset hb) h2 h1
  ·rw[List.pairwise_iff_getElem];intro i j hi hj hij;have:=hs i j (Nat.zero_le _) hij (by simp only[List.size_toArray]at hsz |-;simp only[Array.length_toList]at hj;omega);simp only[Array.length_toList]at hi hj;rw[getElem!_pos d' i hi,getElem!_pos d' j hj]at this;simpa using this
  ·refine List.pairwise_mergeSort (fun a b c h1 h2=>?_) (fun a b=>?_) l
   ·simp only[Bool.not_eq_true']at h1 h2 |-;exact hO.ntrans c b a h2 h1
   ·simp only[Bool.or_eq_true,Bool.not_eq_true'];cases h1:ltOf cf b a with
    |false=>exact .inl rfl
    |true=>
     right;cases h2:ltOf cf a b with
     |false=>rfl
     |true=>
      have h3:=hO.trans a b a h2 h1;rw[hO.irrefl]at h3;cases h3
 rw[<-this]
section
variable {P:Program}{ρ:Ren}{F:Nat->Prop}{own:Own}{w:World}{k:Tag}
theorem vJ (hk:ub k){l:List k.T}{o:Nat}{cs:Array Value}(h:RowAt F own w k l o cs){i j:Nat}(hi:i<l.length)(hj:j<aa k):cs[o+i*aa k+j]? =(kc k l[i])[j]?:=by
 have e1:=List.getElem?_eq_getElem hi;have hlen:j< (cellsOf k l[i]).length:=by rw[aQ];exact hj
 have e2:=List.getElem?_eq_getElem hlen;obtain⟨u,h1,h2⟩:=h i _ e1 j _ e2;obtain⟨v,h3,_⟩:=hk l[i] _ (List.getElem_mem hlen);rw[h1];unfold kc;rw[List.getElem?_map,e2];rw[h3]at h2 |-;rw[bo h2];rfl
theorem vK (hk:ub k){l:List k.T}{o:Nat}{cs:Array Value}(h:∀ i j,(hi:i<l.length)->j<aa k->cs[o+i*aa k+j]? =(kc k l[i])[j]?):RowAt F own w k l o cs:=by
 intro i x hi j s hj;obtain⟨hl,rfl⟩:=List.getElem?_eq_some_iff.1 hi;have hlen:=(List.getElem?_eq_some_iff.1 hj).1;rw[aQ]at hlen;have:=h i j hl hlen;unfold kc at this;rw[List.getElem?_map,hj]at this;obtain⟨v,h3,_⟩:=hk _ s (List.mem_of_getElem? hj);subst h3;exact⟨v,this,.v v⟩
theorem HN {w w':World}(hb:Go.RowKit.Below w.heap.size w w')(hd:w.drawn<=w'.drawn):∃ q os,w'=grow (w.drewN q) os:=by
 refine⟨w'.drawn - w.drawn,w'.heap.extract w.heap.size w'.heap.size,?_⟩;obtain⟨h1,h2,h3,h4,h5⟩:=hb;obtain⟨heap,tape,drawn,os,output⟩:=w;obtain⟨heap',tape',drawn',os',output'⟩:=w';simp only at h1 h2 h3 h4 h5 hd;subst h1;subst h2;subst h3;unfold grow World.drewN;simp only[World.mk.injEq,true_and,and_true];refine⟨?_,by omega⟩;apply Array.ext
 ·simp;omega
 ·intro i hi1 hi2;by_cases hi:i<heap.size
  ·rw[Array.getElem_append_left hi];have:=h5 i hi;rw[Array.getElem?_eq_getElem hi1,Array.getElem?_eq_getElem hi]at this;exact Option.some.inj this
  ·rw[Array.getElem_append_right (by omega)];simp only[Array.getElem_extract];congr 1;omega
end
open Classical in
noncomputable def kY (k:Tag)(g:FuncId)(caps:List SV)(cf:k.T->k.T->Int):List SV->List Ob->Option HCon:=fun l h=>
 Hv k (fun l0=>if l=[.os 0,.fn g [] caps]then some (dK (apart cf l0) (.tup []) [.row k (srt cf l0)])else none) h
@[go_sem] theorem uC {k:Tag}{g:FuncId}{caps:List SV}{cf:k.T->k.T->Int}{l0:List k.T}:kY k g caps cf [.os 0,.fn g [] caps] [.row k l0]=some (dK (apart cf l0) (.tup []) [.row k (srt cf l0)]):=by
 simp[kY,Hv]
section
variable {P:Program}{ρ:Ren}{k:Tag}
theorem EX {w:World}{b:Nat}{cs:Array Value}{ty:TypeId}(hb:w.heap[b]? =some (.cells cs ty (0,0)))(D:Array Value)(o:Nat):(putRow id w b o D).heap[b]? =some (.cells (putCells id o D cs) ty (0,0)):=by
 unfold putRow mapBlock;simp only[Array.getElem?_modify,if_true,hb];rfl
theorem yQ {w:World}{b c:Nat}(hc:c≠b)(D:Array Value)(o:Nat):(putRow id w b o D).heap[c]? =w.heap[c]?:=by
 unfold putRow mapBlock;simp only[Array.getElem?_modify];rw[if_neg (fun e=>hc e.symm)]
theorem xc {D cs:Array Value}{o t:Nat}(ht:t<D.size)(hs:o+t<cs.size):(putCells id o D cs)[o+t]? =D[t]?:=by
 unfold putCells;rw[Array.getElem?_mapIdx,Array.getElem?_eq_getElem hs];simp only[Option.map_some];rw[if_pos (by omega),Array.getElem?_eq_getElem ht];have:o+t - o=t:=by omega
 rw[this,getElem!_pos D t ht];rfl
theorem yR {α:Type}[Inhabited α]{enc:α->List Value}{n:Nat}(hn:∀ x,(enc x).length=n){d:Array α}{i j:Nat}(hi:i<d.size)(hj:j<n):(flatK enc n d)[i*n+j]? =(enc d[i]!)[j]?:=by
 have hlt:i*n+j<d.size*n:=by
  have:=Nat.mul_le_mul_right n (show i+1<=d.size from hi);rw[Nat.succ_mul]at this;omega
 have h1:i*n+j< (flatK enc n d).size:=by rw[size_flatK];exact hlt
 rw[Array.getElem?_eq_getElem h1,<-getElem!_pos (flatK enc n d) _ h1,get_flatK enc n d _ hlt];have hd:(i*n+j) / n=i:=by
  rw[Nat.mul_comm,Nat.mul_add_div (by omega),Nat.div_eq_of_lt hj];omega
 have hm:(i*n+j) % n=j:=by
  rw[Nat.mul_comm,Nat.mul_add_mod,Nat.mod_eq_of_lt hj]
 rw[hd,hm];have hj':j< (enc d[i]!).length:=by rw[hn];exact hj
 rw[List.getElem?_eq_getElem hj',getElem!_pos (enc d[i]!) j hj']
theorem sw_b {α:Type}[Inhabited α]{enc:α->List Value}{n b o m:Nat}{w:World}{cs:Array Value}{ty:TypeId}(hb:w.heap[b]? =some (.cells cs ty (0,0)))(d:Array α)(os:Array Obj):(sortWorldK enc n w b o m d os).heap[b]? =some (.cells (putCells id o (flatK enc n d) cs) ty (0,0)):=by
 have hlt:b<w.heap.size:=(Array.getElem?_eq_some_iff.1 hb).1;unfold sortWorldK grow;simp only;rw[Array.getElem?_append_left (by unfold putRowK putRow mapBlock Sort.ahead;simpa using hlt)];exact EX (w:=Sort.ahead w m) hb _ _
theorem IJ {α:Type}[Inhabited α]{enc:α->List Value}{n b o m c:Nat}{w:World}(hc:c<w.heap.size)(hne:c≠b)(d:Array α)(os:Array Obj):(sortWorldK enc n w b o m d os).heap[c]? =w.heap[c]?:=by
 unfold sortWorldK grow;simp only;rw[Array.getElem?_append_left (by unfold putRowK putRow mapBlock Sort.ahead;simpa using hc)];exact yQ (w:=Sort.ahead w m) hne _ _
theorem xd {α:Type}[Inhabited α]{enc:α->List Value}{n b o m:Nat}{w:World}(d:Array α)(os:Array Obj):w.heap.size<=(sortWorldK enc n w b o m d os).heap.size:=by
 unfold sortWorldK grow putRowK putRow mapBlock Sort.ahead;simp
theorem yS (L:SlLaysF0.n6 P ρ)(aE:∀ w,(isAgg (ρ.t 24)).run P w=.ok true w)(zE:∀ w,(Go.sizeOf (ρ.t 24)).run P w=.ok (aa k) w)(hk:ub k)(h0:0<aa k){g:FuncId}{caps:List SV}{C:List SV->Option Con}(hC:FnOk P g C){cf:k.T->k.T->Int}
  (hcf:∀ x y,C (.agg (cellsOf k x):: .agg (cellsOf k y)::caps)=some (.det True (.v (.int .i64 (cf x y))))) (hO:SWO (ltOf cf)) (hpf:∀ s∈caps,PF s) (hcf0:∃ x y,C (.agg (cellsOf k x):: .agg (cellsOf k y)::caps)=some (.det True (.v (.int .i64 (cf x y))))):FnOkO P (ρ.f 6) (kY k g caps cf):=by
 haveI:Inhabited k.T:=⟨di k⟩
 refine⟨fun l h c hc args w=>L.f6.enters rfl args w,fun l h c hc hp F own w vs hHp hvs=>?_⟩;unfold kY at hc;obtain⟨l0,hh,hK⟩:=Ey hc;clear hc;subst hh;by_cases hl:l=[.os 0,.fn g [] caps]
 rotate_left
 ·rw[if_neg hl]at hK;cases hK
 rw[if_pos hl]at hK;subst hl;cases hK;have hp:apart cf l0:=hp;obtain⟨hsz,hrel⟩:=hvs;have r0:=hrel 0 _ rfl;have r1:=hrel 1 _ rfl;have hvs2:vs= #[vs.getD 0 undef,vs.getD 1 undef]:=by
  apply Array.ext
  ·simpa using hsz
  ·intro i h1 h2;simp only[List.length_cons,List.length_nil]at hsz;match i,h1,h2 with
   |0,h1,_=>simp[Array.getD,h1]
   |1,h1,_=>simp[Array.getD,h1]
   |i+2,h1,_=>omega
 generalize vs.getD 0 undef=v0 at r0 hvs2;generalize vs.getD 1 undef=v1 at r1 hvs2;subst hvs2;obtain⟨hd,o0,rfl,_⟩:=dQ r0;obtain⟨hd',o0',hrow⟩:=hHp.at (id:=0) (o:=.row k l0) rfl rfl;rw[o0]at o0';cases o0';have hrow:RowRel F own w k l0 hd.v hd.bs:=hrow;cases r1 with
 | @fn _ _ _ us cs s1 s2 c1 c2=>
 have hus:us= #[]:=Array.eq_empty_of_size_eq_zero (by simpa using s1);subst hus;rcases hrow with⟨a,e1,rfl,e2⟩ | ⟨b,o,cap,cells,ty,e1,e2,e3,e4,e5,e6,e7⟩
 ·rw[e1];refine(AnyF.slices_SortFunc_none L a 0 _ w).mono fun e w' he=>?_;obtain⟨rfl,rfl⟩:=he;refine⟨(),own,trivial,⟨_,rfl,.tup rfl fun j s hj=>by simp at hj⟩,?_,Fr.refl _,Nat.le_refl _⟩;have:srt cf ([]:List k.T)=[]:=by simp[srt]
  rw[this];exact hHp
 ·have hbown:b∈hd.bs:=by rw[e2];simp
  have hbw:b<w.heap.size:=hHp.lt 0 hd b o0 hbown;have hkl:∀ x:k.T,(kc k x).length=aa k:=fun x=>by unfold kc;rw[List.length_map,aQ]
  have hone:∀ x:k.T,∀ v∈kc k x,v.oneCell'=true:=fun x v hv=>by
   unfold kc at hv;rw[List.mem_map]at hv;obtain⟨s,hs,rfl⟩:=hv;obtain⟨v,rfl,h1⟩:=hk x s hs;exact h1
  have eg:∀ args w,(callFunc g args).run P w=.ok (.enter g args) w:=fun args w=>by
   obtain⟨x,y,hxy⟩:=hcf0;exact hC.enter _ _ hxy args w
  have hown:∀ id h2,own id=some h2->id=0:=fun id h2 e=>by have:=hHp.dom id h2 e;simpa using this
  have hH:HoldsK (kc k) (aa k) w b o l0.toArray:=by
   intro t ht;rw[size_flatK]at ht;simp only[List.size_toArray]at ht;have hi:t / aa k<l0.length:=Nat.div_lt_of_lt_mul (by rw[Nat.mul_comm];exact ht);have hj:=Nat.mod_lt t h0;have ht':t=t / aa k*aa k+t % aa k:=(Nat.div_add_mod' t _).symm;have q1:=vJ hk e7 hi hj;have q2:=yR (enc:=kc k) hkl (d:=l0.toArray) (i:=t / aa k) (j:=t % aa k) (by simpa using hi) hj;rw[<-ht']at q2;rw[Nat.add_assoc,<-ht']at q1;have hl0:l0.toArray[t / aa k]! =l0[t / aa k]:=by rw[getElem!_pos l0.toArray _ (by simpa using hi)];rfl
   rw[hl0]at q2;have hlt:t< (flatK (kc k) (aa k) l0.toArray).size:=by rw[size_flatK];simpa using ht
   constructor
   ·unfold World.cell?;rw[e3];dsimp only;rw[q1,<-q2,Array.getElem?_eq_getElem hlt,getElem!_pos _ t hlt];rfl
   ·unfold World.frozen?;rw[e3];simp
  have hcmp:CmpLays P g cs (kc k) (aa k) cf b o l0.toArray.size w:=by
   intro m os dk hdk x y;generalize hW:sortWorldK (kc k) (aa k) w b o m dk os=W;have hcar:Carries F own w F own W:=⟨fun _ h2 e=>⟨h2,e,.refl _⟩,fun c hc hn=>⟨hn,by
    rw[<-hW];exact IJ hc (fun e=>hn (.inr ⟨0,hd,o0,e▸hbown⟩)) _ _⟩⟩
   have henc:∀ z:k.T,Rel (fun _=>False) bX W (.agg (cellsOf k z)) (.agg (kc k z).toArray):=fun z=>by
    refine .agg (by simp[kc]) fun j s hj=>?_;obtain⟨v,rfl,_⟩:=hk z s (List.mem_of_getElem? hj);have:(kc k z).toArray.getD j undef=v:=by
     unfold kc;rw[Array.getD_eq_getD_getElem?,List.getElem?_toArray,List.getElem?_map,hj];rfl
    rw[this];exact .v v
   have hcall:=yP (hC.calls _ _ (hcf x y) trivial (fun _=>False) W (#[.agg (kc k x).toArray,.agg (kc k y).toArray]++cs) (fun _ h=>h.elim) ⟨by simp[c1];omega,fun j s hj=>by
    match j,hj with
    |0,hj=>
     cases hj;rw[Array.getD_eq_getD_getElem?,Array.getElem?_append_left (by simp)];exact henc x
    |1,hj=>
     cases hj;rw[Array.getD_eq_getD_getElem?,Array.getElem?_append_left (by simp)];exact henc y
    |j+2,hj=>
     have hj:caps[j]? =some s:=hj;have:=((c2 j s hj).carry hcar).over (hpf s (List.mem_of_getElem? hj)) (F':=fun _=>False) (own':=bX) fun _ _ h=>by
      rcases h with h| ⟨_,_,h,_⟩
      ·exact h
      ·cases h
     have e:(#[Value.agg (kc k x).toArray,.agg (kc k y).toArray]++cs).getD (j+2) undef=cs.getD j undef:=by
      rw[Array.getD_eq_getD_getElem?,Array.getD_eq_getD_getElem?,Array.getElem?_append_right (by simp)];simp
     rw[e];exact this⟩)
   refine hcall.mono fun e w' hq=>?_;obtain⟨he,hdr⟩:=hq;rcases he with⟨s,u,own',hs,rfl,hh,hb⟩ | ⟨z,hz,_⟩
   ·simp only[cH]at hs;subst hs;have:=hh.val;simp only[nv]at this;rw[bo this];exact⟨rfl,HN hb (hdr (by simp))⟩
   ·exact hz.elim
  have hall:=AnyQ.slices_SortFunc L (aa k) aE zE (kc k) hkl hone cf hO g cs b o cap l0.toArray w eg hcmp hH hbw (by unfold bR at e6;simp only[List.size_toArray];omega);rw[e1];refine hall.mono fun e w' he=>?_;obtain⟨rfl,d',n,os,hpm,hst,rfl⟩:=he;have hd':=Aq hO hp hpm hst;subst hd';have hlS:(srt cf l0).length=l0.length:=List.length_mergeSort _;generalize srt cf l0=lS at hlS;have hsb:=sw_b (enc:=kc k) (n:=aa k) (o:=o) (m:=n) e3 lS.toArray os;refine⟨(),own,trivial,⟨_,rfl,.tup rfl fun j s hj=>by simp at hj⟩,?_,?_,Nat.le_refl _⟩
  ·refine⟨hHp.dom,fun c hc=>Nat.lt_of_lt_of_le (hHp.foreign c hc) (xd _ _),hHp.apart,hHp.inj,fun i h2 c e hc=>Nat.lt_of_lt_of_le (hHp.lt i h2 c e hc) (xd _ _),fun i hi=>?_⟩;match i,hi with
   |0,_=>
    refine⟨hd,o0,?_⟩;show RowRel F own _ k lS hd.v hd.bs;refine .inr ⟨b,o,cap,_,ty,by rw[hlS];exact e1,e2,hsb,?_,by omega,by omega,vK hk fun i j hi hj=>?_⟩
    ·unfold putCells;simpa using e4
    ·have hlt:i*aa k+j< (flatK (kc k) (aa k) lS.toArray).size:=by
      rw[size_flatK];have:=Nat.mul_le_mul_right (aa k) (show i+1<=lS.length from hi);rw[Nat.succ_mul]at this;simp only[List.size_toArray];omega
     have hle:o+(i*aa k+j) <cells.size:=by
      rw[size_flatK]at hlt;simp only[List.size_toArray]at hlt;have:=Nat.mul_le_mul_right (aa k) (show lS.length<=cap by omega);omega
     rw[Nat.add_assoc,xc hlt hle,yR hkl (by simpa using hi) hj];have:lS.toArray[i]! =lS[i]:=by rw[getElem!_pos lS.toArray _ (by simpa using hi)];rfl
     rw[this]
   |i+1,hi=>rw[g_ (by simp)]at hi;cases hi
  ·refine⟨fun _ h2 e=>⟨h2,e,.refl _⟩,(Fr.refl { w:=w,own:=own}).base,rfl,rfl,rfl,xd _ _,fun c hc=>?_⟩;exact IJ hc.1 (fun e=>hc.2 ⟨0,hd,o0,e▸hbown⟩) _ _
end
def qg (l:List Int):List Int:=l.mergeSort fun x y=>decide (x<=y)
noncomputable def xe:List SV->List Ob->Option HCon:=fq (fun x_:List Int=>[.os 0]) (fun x_=>[.row .int x_]) (fun x_=>dK True (.tup []) [.row .int (qg x_)])
@[go_sem] theorem MS (l_:List Int):xe ([.os 0]) ([.row .int l_])=some (dK True (.tup []) [.row .int (qg l_)]):=dM (A:=fun x_:List Int=>[.os 0]) (H:=fun x_=>[.row .int x_]) (K:=fun x_=>dK True (.tup []) [.row .int (qg x_)]) (x:=l_)
section
variable {P:Program}{ρ:Ren}
theorem OQ {enc:Int->Value}{w:World}{b:Nat}{cs:Array Value}{ty:TypeId}(hb:w.heap[b]? =some (.cells cs ty (0,0)))(D:Array Int)(o:Nat):(putRow enc w b o D).heap[b]? =some (.cells (putCells enc o D cs) ty (0,0)):=by
 unfold putRow mapBlock;simp only[Array.getElem?_modify,if_true,hb];rfl
theorem KI {enc:Int->Value}{w:World}{b c:Nat}(hc:c≠b)(D:Array Int)(o:Nat):(putRow enc w b o D).heap[c]? =w.heap[c]?:=by
 unfold putRow mapBlock;simp only[Array.getElem?_modify];rw[if_neg (fun e=>hc e.symm)]
theorem EY {enc:Int->Value}{D:Array Int}{cs:Array Value}{o t:Nat}(ht:t<D.size)(hs:o+t<cs.size):(putCells enc o D cs)[o+t]? =some (enc D[t]):=by
 unfold putCells;rw[Array.getElem?_mapIdx,Array.getElem?_eq_getElem hs];simp only[Option.map_some];rw[if_pos (by omega)];have:o+t - o=t:=by omega
 rw[this,getElem!_pos D t ht]
theorem gp_b {enc:Int->Value}{b o m:Nat}{w:World}{cs:Array Value}{ty:TypeId}(hb:w.heap[b]? =some (.cells cs ty (0,0)))(d:Array Int)(os:Array Obj):(grow (putRow enc (Sort.ahead w m) b o d) os).heap[b]? =some (.cells (putCells enc o d cs) ty (0,0)):=by
 have hlt:b<w.heap.size:=(Array.getElem?_eq_some_iff.1 hb).1;unfold grow;simp only;rw[Array.getElem?_append_left (by unfold putRow mapBlock Sort.ahead;simpa using hlt)];exact OQ (w:=Sort.ahead w m) hb _ _
theorem OS {enc:Int->Value}{b o m c:Nat}{w:World}(hc:c<w.heap.size)(hne:c≠b)(d:Array Int)(os:Array Obj):(grow (putRow enc (Sort.ahead w m) b o d) os).heap[c]? =w.heap[c]?:=by
 unfold grow;simp only;rw[Array.getElem?_append_left (by unfold putRow mapBlock Sort.ahead;simpa using hc)];exact KI (w:=Sort.ahead w m) hne _ _
theorem xf {enc:Int->Value}{b o m:Nat}{w:World}(d:Array Int)(os:Array Obj):w.heap.size<=(grow (putRow enc (Sort.ahead w m) b o d) os).heap.size:=by
 unfold grow putRow mapBlock Sort.ahead;simp
theorem vL:ub .int:=by
 intro x s hs;have:s=.v (.int .i64 x):=by simpa[cellsOf]using hs
 exact⟨_,this,rfl⟩
theorem Ar (L:SlLaysM.n5 P ρ):FnOkO P (ρ.f 5) xe:=by
 refine⟨fun l h c hc args w=>L.f5.enters rfl args w,fun l h c hc hp F own w vs hHp hvs=>?_⟩;obtain⟨l0,rfl,rfl,rfl⟩:=cG hc;clear hc;obtain⟨hsz,hrel⟩:=hvs;have r0:=hrel 0 _ rfl;have hvs2:vs= #[vs.getD 0 undef]:=by
  apply Array.ext
  ·simpa using hsz
  ·intro i h1 h2;simp only[List.length_cons,List.length_nil]at hsz;match i,h1,h2 with
   |0,h1,_=>simp[Array.getD,h1]
   |i+1,h1,_=>omega
 generalize vs.getD 0 undef=v0 at r0 hvs2;subst hvs2;obtain⟨hd,o0,rfl,_⟩:=dQ r0;obtain⟨hd',o0',hrow⟩:=hHp.at (id:=0) (o:=.row .int l0) rfl rfl;rw[o0]at o0';cases o0';have hrow:RowRel F own w .int l0 hd.v hd.bs:=hrow;rcases hrow with⟨a,e1,rfl,e2⟩ | ⟨b,o,cap,cells,ty,e1,e2,e3,e4,e5,e6,e7⟩
 ·rw[e1];refine(AnyM.slices_Sort_int_none L a 0 w).mono fun e w' he=>?_;obtain⟨rfl,rfl⟩:=he;refine⟨(),own,trivial,⟨_,rfl,.tup rfl fun j s hj=>by simp at hj⟩,?_,Fr.refl _,Nat.le_refl _⟩;have:qg ([]:List Int)=[]:=by simp[qg]
  show Hp F own w' [.row .int (qg [])];rw[this];exact hHp
 ·have hbown:b∈hd.bs:=by rw[e2];simp
  have hbw:b<w.heap.size:=hHp.lt 0 hd b o0 hbown;have hH:Holds (Value.int .i64) w b o (l0:List Int).toArray:=by
   intro t ht;simp only[List.size_toArray]at ht;have q1:=vJ vL e7 (i:=t) (j:=0) ht (by decide);have e0:aa .int=1:=rfl;rw[e0,Nat.mul_one,Nat.add_zero]at q1;constructor
   ·unfold World.cell?;rw[e3];dsimp only;rw[q1,getElem!_pos _ t (by simpa using ht)];rfl
   ·unfold World.frozen?;rw[e3];simp
  have hlen:l0.length<4611686018427387904:=by unfold bR at e6;omega
  have hall:=AnyM.slices_Sort_int L b o cap l0 w hH hbw hlen;rw[e1];refine hall.mono fun e w' he=>?_;obtain⟨rfl,n,os,rfl⟩:=he;have hlS:(qg l0).length=l0.length:=List.length_mergeSort _;show ∃ r own',_/\wB F w own 1 (.returned (.tuple #[])) own' (grow (putRow (Value.int .i64) (Sort.ahead w n) b o (qg l0).toArray) os) (.ret (.tup []) [.row .int (qg l0)]);generalize qg l0=lS at hlS;have hsb:=gp_b (enc:=Value.int .i64) (o:=o) (m:=n) e3 lS.toArray os;refine⟨(),own,trivial,⟨_,rfl,.tup rfl fun j s hj=>by simp at hj⟩,?_,?_,Nat.le_refl _⟩
  ·refine⟨hHp.dom,fun c hc=>Nat.lt_of_lt_of_le (hHp.foreign c hc) (xf _ _),hHp.apart,hHp.inj,fun i h2 c e hc=>Nat.lt_of_lt_of_le (hHp.lt i h2 c e hc) (xf _ _),fun i hi=>?_⟩;match i,hi with
   |0,_=>
    refine⟨hd,o0,?_⟩;show RowRel F own _ .int lS hd.v hd.bs;have hc1:aa .int=1:=rfl;refine .inr ⟨b,o,cap,_,ty,by rw[hlS];exact e1,e2,hsb,?_,by omega,by omega,vK vL fun i j hi hj=>?_⟩
    ·unfold putCells;simpa using e4
    ·rw[hc1]at hj |-;have hj0:j=0:=by omega
     subst hj0;rw[Nat.mul_one,Nat.add_zero,EY (by simpa using hi) (by have h9:aa .int=1:=rfl;simp only[h9,Nat.mul_one]at e4 e5;omega)];simp[kc,cellsOf,II]
   |i+1,hi=>rw[g_ (by simp)]at hi;cases hi
  ·refine⟨fun _ h2 e=>⟨h2,e,.refl _⟩,(Fr.refl { w:=w,own:=own}).base,rfl,rfl,rfl,xf _ _,fun c hc=>?_⟩;exact OS hc.1 (fun e=>hc.2 ⟨0,hd,o0,e▸hbown⟩) _ _
end
end Go.Sx
end
section
namespace Go.Sx
open Go.RowKit
section
variable {P:Program}{ts:Tis}{G:Cons}{N:Nat}
theorem As (hm:P.follows .mixedOrders=true)(hts:ts.ok P)(hG:ConsOk P G){id:Nat}{g:Operand}{ps:Array Tmp}{assign body:Code}{C:St->Option LCon}
  (hpn:ps.toList.Nodup) (hpN:∀ p∈ps.toList,p<N) (hca:ca N assign=true) (hcb:ca N body=true)
  (h:∀ st0 lc,C st0=some lc->lc.pre->∃ st,NilS st0 st/\∃ (f:FuncId) (caps:List SV) (τ ρ σ:Type) (l:List τ) (mk:τ->List SV) (step:τ->σ->ρ⊕σ) (p:τ->σ->Prop) (pre:Prop) (s0:σ) (exE:ρ->Ex) (outE:ρ->St) (outN:σ->St) (T:List (Nat×SV)) (H:σ->List Ob) (Hy:ρ->List Ob) (js:List Nat),
   raw st.t g=.fn f [] caps/\lc=LC pre (fg step l s0) exE outE outN/\okL step p l s0/\st.h.length<=(H s0).length/\Sub js st.h.length ⟨st.t,pL (jr st caps) st.h⟩ ⟨T,H s0⟩/\
   z6 P f (fun y=>y::caps.map (ren (z8 (jr st caps)) 3)) (yp (jr st caps) st.h) (l.map mk)/\
   (∀ x s,p x s->(mk x).length=ps.size/\∃ L,(∀ l,ap P (some l) N L assign)/\(∀ l,ap P (some l) N L body)/\exec ts G L assign ⟨psT ps.toList (mk x)++T,H s⟩ (fun e st1=>e=.normal/\exec ts G L body st1 (rgQ step exE T H Hy st.h.length id x s)))/\
   (∀ s,fm (outN s) st.h.length ⟨T,H s⟩)/\∀ y,fm (outE y) st.h.length ⟨T,Hy y⟩):gT P none N id (.rangeFunc g ps assign body) C:=by
 intro nd F w0 st0 lc hC hpre own a w hr;obtain⟨st,hN,hrest⟩:=h st0 lc hC hpre;obtain⟨own',hr'⟩:=hN.rel hr;refine Cs hm hts hG hpn hpN hca hcb (C:=fun s=>@ite _ (s=st) (Classical.propDecidable _) (some lc) none) (fun s l e _=>?_) nd F w0 st lc (if_pos rfl) hpre own' a w hr';split at e
 ·rename_i e1;subst e1;cases e;exact hrest
 ·cases e
end
end Go.Sx
end
section
namespace Go.Proofs
open Go.Shelf
def Tryz.sortI_ren:Go.Shelf.Ren:=⟨fun|5=>74|8=>81|7=>101|19=>112|20=>113|10=>125|11=>126|12=>127|13=>128|14=>129|15=>130|16=>131|17=>132|18=>133|30=>145|31=>137|32=>138|33=>146|34=>147|35=>62|40=>152|n=>n,fun|23=>47|25=>3|3=>3|32=>116|22=>47|0=>0|44=>162|46=>164|4=>4|36=>156|35=>155|41=>78|5=>5|9=>9|53=>184|57=>187|63=>195|64=>192|n=>n,fun|n=>n⟩
theorem Tryz.sortI:Go.Proofs.SlLaysM.n5 Tryz.prog Tryz.sortI_ren:= {
 mixed:=by kernel_rfl
 f5:=⟨Tryz.f74.name,by decide,Tryz.func74.trans (congrArg some (by kernel_rfl))⟩
 f7:=⟨Tryz.f101.name,by decide,Tryz.func101.trans (congrArg some (by kernel_rfl))⟩
 f8:=Tryz.func81.trans (congrArg some (by kernel_rfl))
 f10:=⟨Tryz.f125.name,by decide,Tryz.func125.trans (congrArg some (by kernel_rfl))⟩
 f11:=⟨Tryz.f126.name,by decide,Tryz.func126.trans (congrArg some (by kernel_rfl))⟩
 f12:=⟨Tryz.f127.name,by decide,Tryz.func127.trans (congrArg some (by kernel_rfl))⟩
 f13:=⟨Tryz.f128.name,by decide,Tryz.func128.trans (congrArg some (by kernel_rfl))⟩
 f14:=⟨Tryz.f129.name,by decide,Tryz.func129.trans (congrArg some (by kernel_rfl))⟩
 f15:=⟨Tryz.f130.name,by decide,Tryz.func130.trans (congrArg some (by kernel_rfl))⟩
 f16:=⟨Tryz.f131.name,by decide,Tryz.func131.trans (congrArg some (by kernel_rfl))⟩
 f17:=⟨Tryz.f132.name,by decide,Tryz.func132.trans (congrArg some (by kernel_rfl))⟩
 f18:=⟨Tryz.f133.name,by decide,Tryz.func133.trans (congrArg some (by kernel_rfl))⟩
 f19:=Tryz.func112.trans (congrArg some (by kernel_rfl))
 f20:=Tryz.func113.trans (congrArg some (by kernel_rfl))
 f30:=⟨Tryz.f145.name,by decide,Tryz.func145.trans (congrArg some (by kernel_rfl))⟩
 f31:=Tryz.func137.trans (congrArg some (by kernel_rfl))
 f32:=Tryz.func138.trans (congrArg some (by kernel_rfl))
 f33:=⟨Tryz.f146.name,by decide,Tryz.func146.trans (congrArg some (by kernel_rfl))⟩
 f34:=⟨Tryz.f147.name,by decide,Tryz.func147.trans (congrArg some (by kernel_rfl))⟩
 f35:=⟨Tryz.f62.name,by decide,Tryz.func62.trans (congrArg some (by kernel_rfl))⟩
 f40:=⟨Tryz.f152.name,by decide,Tryz.func152.trans (congrArg some (by kernel_rfl))⟩
 t0:=Tryz.underlying0
 a0:=Tryz.isAgg0
 z0:=Tryz.sizeOf0
 v0:=Tryz.zeroValue0
 t3:=Tryz.underlying3
 a3:=Tryz.isAgg3
 z3:=Tryz.sizeOf3
 v3:=Tryz.zeroValue3
 t4:=Tryz.underlying4
 a4:=Tryz.isAgg4
 z4:=Tryz.sizeOf4
 v4:=Tryz.zeroValue4
 t5:=Tryz.underlying5
 a5:=Tryz.isAgg5
 z5:=Tryz.sizeOf5
 v5:=Tryz.zeroValue5
 t9:=Tryz.underlying9
 a9:=Tryz.isAgg9
 z9:=Tryz.sizeOf9
 v9:=Tryz.zeroValue9
 t22:=Tryz.underlying47
 a22:=Tryz.isAgg47
 z22:=Tryz.sizeOf47
 v22:=Tryz.zeroValue47
 t23:=Tryz.underlying47
 a23:=Tryz.isAgg47
 z23:=Tryz.sizeOf47
 v23:=Tryz.zeroValue47
 t25:=Tryz.underlying3
 a25:=Tryz.isAgg3
 z25:=Tryz.sizeOf3
 v25:=Tryz.zeroValue3
 t32:=Tryz.underlying116
 a32:=Tryz.isAgg116
 z32:=Tryz.sizeOf116
 v32:=Tryz.zeroValue116
 t35:=Tryz.underlying155
 a35:=Tryz.isAgg155
 z35:=Tryz.sizeOf155
 v35:=Tryz.zeroValue155
 t36:=Tryz.underlying156
 a36:=Tryz.isAgg156
 z36:=Tryz.sizeOf156
 v36:=Tryz.zeroValue156
 t41:=Tryz.underlying78
 a41:=Tryz.isAgg78
 z41:=Tryz.sizeOf78
 v41:=Tryz.zeroValue78
 t44:=Tryz.underlying162
 a44:=Tryz.isAgg162
 z44:=Tryz.sizeOf162
 v44:=Tryz.zeroValue162
 t46:=Tryz.underlying164
 a46:=Tryz.isAgg164
 z46:=Tryz.sizeOf164
 v46:=Tryz.zeroValue164
 t53:=Tryz.underlying184
 a53:=Tryz.isAgg184
 z53:=Tryz.sizeOf184
 v53:=Tryz.zeroValue184
 t57:=Tryz.underlying187
 a57:=Tryz.isAgg187
 z57:=Tryz.sizeOf187
 v57:=Tryz.zeroValue187
 t63:=Tryz.underlying195
 a63:=Tryz.isAgg195
 z63:=Tryz.sizeOf195
 v63:=Tryz.zeroValue195
 t64:=Tryz.underlying192
 a64:=Tryz.isAgg192
 z64:=Tryz.sizeOf192
 v64:=Tryz.zeroValue192}
end Go.Proofs
end
section
namespace Go.Sx
open Go.Proofs
open IntKind (i64)
theorem HO:FnOkO Tryz.prog 74 xe:=Ar Tryz.sortI
@[go_sem] def bJ (d:District)(k_0:Nat)(s_0:List (RegisterTitle×Int)):Empty⊕(List (RegisterTitle×Int)):=(bif((d.rights.getD k_0 default).kind==1)then .inr (fe .registerTitle .int s_0 ({ right:=(k_0:Int),farm:=(d.rights.getD k_0 default).farm}:RegisterTitle) ((d.rights.getD k_0 default).litres))else .inr s_0)
@[go_sem] def bK (ds:List Deed)(z_1:Deed)(s_1:List Int×List (RegisterTitle×Int)):Empty⊕(List Int×List (RegisterTitle×Int)):=letI q0:=({ right:=z_1.right,farm:=z_1.since}:RegisterTitle);letI q1:=dG .registerTitle .int s_1.2 q0;letI q2:=kJ .registerTitle .int s_1.2 q0;(bif(q1==0)then .inr ((s_1.1++([z_1.no])),s_1.2)else(bif(z_1.kind==1)then .inr (s_1.1,(cL z_1 q1 q2))else(bif(z_1.kind==2)then .inr (s_1.1,(b6 z_1 q1 q2))else(bif(z_1.kind==3)then .inr (s_1.1,q2)else .inr default))))
def cN (ds:List Deed)(z_1:Deed)(s_1:List Int×List (RegisterTitle×Int)):Prop:=letI q1:=({ right:=z_1.right,farm:=z_1.since}:RegisterTitle);letI q0:=dG .registerTitle .int s_1.2 q1;(((q0==0)=true->((s_1.1++([z_1.no])).length*8<=fY))/\((q0==0)=false->((z_1.kind==1)=false->(((z_1.kind==2)=true->(dg z_1 q0 (kJ .registerTitle .int s_1.2 q1)))/\((z_1.kind==2)=false->((z_1.kind==3)=false->False))))))
def cC (d:District)(ds:List Deed):List (RegisterTitle×Int)×List Int:=(match aq (bJ d) d.rights.length 0 ([])with| .inl x=>x.elim| .inr s_0=>(match fg (bK ds) (ax ds) ([],s_0)with| .inl x=>x.elim| .inr s_1=>(s_1.2,(qg s_1.1))))
def eY (d:District)(ds:List Deed):Prop:=letI q0:=ax ds;(d.rights.length<=bR->(∀ s_0,aq (bJ d) d.rights.length 0 ([])=.inr s_0->((bQ ds (q0.map rF))/\okL (bK ds) (cN ds) q0 ([],s_0))))
@[go_sem] noncomputable def i_:List SV->Option Con:=(pD .district fun d=>(pFn 103 (pXR .deed fun ds=>(pE ((pE (.det (eY d ds) (.tup [.nm .registerTitle .int ((cC d ds).1),.nw .int ((cC d ds).2)]))))))))
theorem zq55 {l0 l1:List Nat}(a0:JL l0)(a1:JL l1){p:Prop}(h:JL l0->JL l1->p:=by intro ja jb;simp only[go_sem,Nat.reduceBEq,Nat.reduceLeDiff,Nat.reduceLT,decide_true,Nat.reduceAdd,Nat.reduceSub,Nat.reduceMul,Int.reduceLE,Int.reduceLT,Int.reduceToNat,Int.reduceNeg,reduceCtorEq,ma,bK,psT,rF,List.cons_append,List.nil_append,hk0];all_goals exact jT ja jb):p:=h a0 a1
theorem zq56 {l0 l1:List Nat}(a0:JL l0)(a1:JL l1){p:Prop}(h:JL l0->JL l1->p:=by intro ja jb;simp only[go_sem,Nat.reduceBEq,Nat.reduceLeDiff,Nat.reduceLT,decide_true,Nat.reduceAdd,Nat.reduceSub,Nat.reduceMul,Int.reduceLE,Int.reduceLT,Int.reduceToNat,Int.reduceNeg,reduceCtorEq,ma,bK,psT,rF,List.cons_append,List.nil_append,hk0,hk1];all_goals exact jT ja jb):p:=h a0 a1
theorem OT {l0 l1:List Nat}(a0:JL l0)(a1:JL l1){p:Prop}(h:JL l0->JL l1->p:=by intro ja jb;simp only[go_sem,Nat.reduceBEq,Nat.reduceLeDiff,Nat.reduceLT,decide_true,Nat.reduceAdd,Nat.reduceSub,Nat.reduceMul,Int.reduceLE,Int.reduceLT,Int.reduceToNat,Int.reduceNeg,reduceCtorEq,ma,bK,psT,rF,List.cons_append,List.nil_append,hk0,hk1,hk2];all_goals exact jT ja jb):p:=h a0 a1
theorem OU {l0 l1:List Nat}(a0:JL l0)(a1:JL l1){p:Prop}(h:JL l0->JL l1->p:=by intro ja jb;simp only[go_sem,Nat.reduceBEq,Nat.reduceLeDiff,Nat.reduceLT,decide_true,Nat.reduceAdd,Nat.reduceSub,Nat.reduceMul,Int.reduceLE,Int.reduceLT,Int.reduceToNat,Int.reduceNeg,reduceCtorEq,ma];all_goals exact jT ja jb):p:=h a0 a1
theorem zq61 {p:Prop}(h:p:=by simp only[go_sem,Nat.reduceBEq,Nat.reduceLeDiff,Nat.reduceLT,decide_true,Nat.reduceAdd,Nat.reduceSub,Nat.reduceMul,Int.reduceLE,Int.reduceLT,Int.reduceToNat,Int.reduceNeg,reduceCtorEq,ma];all_goals exact cl):p:=h
theorem kZ:FnOk Tryz.prog 48 i_:=by
 have hG:ConsOk Tryz.prog (mkG [(73,l9)] [(74,xe),(98,gB),(99,ga),(100,gb)]):=aV (cgc p_ cg0) (cgc HO (cgc mX (cgc mI (cgc mJ cg0))));refine qW [(.cell 5 47,.int)] mixed aC hG (fn:=Tryz.f48) (c:=ag Tryz.f48) kr kr kr kr (cq fun d=>(pO (Hu fun ds=>(bw ((bw (fun hp=>?_)))))));dsimp only[bb]at hp;unfold eY at hp;refine⟨nbl rfl,(fun id st=>bif Nat.beq id 0 then some (LCR (ρ:=Empty) (σ:=(List (RegisterTitle×Int))) 4 [] [0,1,2,3] (fun k_0 s_0=>⟨[(1,.fn 103 [] [.ep [.rs .deed ds] 0]),(4,.ptr 1 0),(5,.ptr 2 0),(14,.rs .right d.rights),(15,.v (.int .i64 (d.rights.length:Int))),(16,.v (.int .i64 (k_0:Int)))],[.dead,.cells [.os 3],.cells [.v (.slice none 0 0)],.mp .registerTitle .int s_0 none]⟩) (bJ d) pT d.rights.length ([]) (d.rights.length<=bR) ((·.elim)) ((·.elim)) st)else bif Nat.beq id 2 then some (LC (ρ:=Empty) (σ:=List Int×List (RegisterTitle×Int)) (lk 4 st.t=.ptr 1 0/\lk 5 st.t=.ptr 2 0/\lk 8 st.t=.ptr 5 0/\lk 33 st.t=.fn 103 [] [.ep [.rs .deed ds] 0]/\st.h=[.dead,.cells [.os 3],.cells [.v (.slice none 0 0)],.mp .registerTitle .int (d7 (aq (bJ d) d.rights.length 0 ([]))) none,.mp .int .fnc dz none,.cells [.os 4]]/\bQ ds ((ax ds).map rF)/\okL (bK ds) (cN ds) (ax ds) ([],(d7 (aq (bJ d) d.rights.length 0 ([]))))) (fg (bK ds) (ax ds) ([],(d7 (aq (bJ d) d.rights.length 0 ([]))))) (fun x=>x.elim) (fun x=>x.elim) (fun s_1=>⟨[(4,.ptr 1 0),(5,.ptr 2 0),(8,.ptr 5 0)],[.dead,.cells [.os 3],.cells [.os 7],.mp .registerTitle .int s_1.2 none,.mp .int .fnc dz none,.cells [.os 4],.dead,.row .int s_1.1]⟩))else none),?_,?_⟩
 ·unfold ag Tryz.f48;simp only[ap,true_and,and_true];refine⟨?_,?_⟩
  ·refine ew mixed aC hG kr (fun _=>rfl) (d.rights.length:Int) rfl mT (fun hb0 k_0 s_0 hlt0 _ hw hc=>⟨L0,ak _,?_⟩) (fun hb0 s_0 hc=>?_)
   ·exact dH (jl [0,1,2,3])
   ·exact dI (jl [0,1,2,3])
  ·refine As mixed aC hG (by decide) (by decide) kr kr fun st lc hC hp=>?_;simp only[go_sem,Nat.reduceBEq,Option.some.injEq]at hC;subst hC;obtain⟨t,h⟩:=st;dsimp only[LC]at hp;obtain⟨e1_0,e1_1,e1_2,e1_3,rfl,hb1,hok1⟩:=hp;refine⟨⟨t,[.dead,.cells [.os 3],.cells [.os 6],.mp .registerTitle .int (d7 (aq (bJ d) d.rights.length 0 ([]))) none,.mp .int .fnc dz none,.cells [.os 4],.row .int ([])]⟩,NilS.cell (h:=[.dead,.cells [.os 3],.cells [.v (.slice none 0 0)],.mp .registerTitle .int (d7 (aq (bJ d) d.rights.length 0 ([]))) none,.mp .int .fnc dz none,.cells [.os 4]]) (i:=2) (j:=0) (.row .int ([])) (NilS.refl _) rfl rfl (.inl ⟨_,rfl⟩),103,[.ep [.rs .deed ds] 0],Deed,_,_,(ax ds),rF,(bK ds),(cN ds),_,([],(d7 (aq (bJ d) d.rights.length 0 ([])))),_,_,_,[(4,.ptr 1 0),(5,.ptr 2 0),(8,.ptr 5 0)],(fun s_1=>[.dead,.cells [.os 3],.cells [.os 7],.mp .registerTitle .int s_1.2 none,.mp .int .fnc dz none,.cells [.os 4],.dead,.row .int s_1.1]),(fun x=>x.elim),[0,1,2,3,4,5,6,6],?_,rfl,hok1,nbl rfl,?_,g6 ds _ hb1,fun z_1 s_1 hq1=>⟨rfl,L0,fun l=>?_,fun l=>?_,?_⟩,fun s_1=>?_,fun y=>?_⟩
   ·simp only[go_sem,e1_0,e1_1,e1_2,e1_3]
   ·simp only[go_sem,Nat.reduceBEq,Nat.reduceLeDiff,Nat.reduceLT,decide_true,Nat.reduceAdd,Nat.reduceSub,Nat.reduceMul,Int.reduceLE,Int.reduceLT,Int.reduceToNat,Int.reduceNeg,reduceCtorEq,pL,jr,List.flatMap_cons,List.flatMap_nil,List.nil_append,List.append_nil,List.map_nil,e1_0,e1_1,e1_2,e1_3];all_goals (first|done|decide|(repeat' (first|refine And.intro ?_ ?_|rfl|decide)))
   ·simp only[ap,and_self,true_and,and_true]
   ·simp only[ap,and_self,true_and,and_true]
   ·unfold cN at hq1;rcases Bool.eq_false_or_eq_true (z_1.kind==1)with hk0|hk0
    ·exact zq55 (jl [0,1,2,3,4,5,6,11]) (jl [0,1,2,3,4,5,6,7])
    rcases Bool.eq_false_or_eq_true (z_1.kind==2)with hk1|hk1
    ·exact zq56 (jl [0,1,2,3,4,5,6,11]) (jl [0,1,2,3,4,5,6,7])
    rcases Bool.eq_false_or_eq_true (z_1.kind==3)with hk2|hk2
    ·exact OT (jl [0,1,2,3,4,5,6,11]) (jl [0,1,2,3,4,5,6,7])
    exact OT (jl [0,1,2,3,4,5,6,11]) (jl [0,1,2,3,4,5,6,7])
   ·exact OU (jl [0,1,2,3,4,5,6,11]) (jl [0,1,2,3,4,5,6,7])
   ·exact OU (jl [0,1,2,3,4,5,6,11]) (jl [0,1,2,3,4,5,6,7])
 ·unfold ag Tryz.f48;try unfold cC
  exact zq61
theorem EZ:∀ (l:List Deed) (n:Int),mZ .int .deed (mW l) n=l.any fun y=>y.no==n:=fun l n=>by
 have:∀ (r:List Deed),mZ .int .deed (mW r.reverse) n=r.reverse.any fun y=>y.no==n:=fun r=>by
  induction r with
  |nil=>rfl
  |cons x r ih=>
   rw[List.reverse_cons,qY,CA,ih,List.any_append];simp only[List.any_cons,List.any_nil,Bool.or_false];rw[Bool.or_comm];congr 1
   by_cases h:n=x.no
   ·subst h;simp
   ·have:¬x.no=n:=fun e=>h e.symm;simp[h,this]
 simpa using this l.reverse
theorem E0 {l:List Deed}(h:Asc l){y:Deed}(hy:y∈l):dG .int .deed (mW l) y.no=y:=by
 have:∀ (r:List Deed),Asc r.reverse->∀ y∈r,dG .int .deed (mW r.reverse) y.no=y:=fun r=>by
  induction r with
  |nil=>simp
  |cons x r ih=>
   intro hA y hy;rw[List.reverse_cons]at hA |-;obtain⟨a1,_,a3⟩:=List.pairwise_append.1 hA;rw[qY,nZ];rcases List.mem_cons.1 hy with rfl|hy
   ·rw[if_pos rfl]
   ·have:=a3 y (by simpa using hy) x (by simp);rw[if_neg (show ¬y.no=x.no by omega)];exact ih a1 y hy
 simpa using this l.reverse (by simpa using h) y (by simpa using hy)
structure Fit (d:District)(x:Deed):Prop where
 no0:0<=x.no
 no1:x.no<=1048576
 at0:0<=x.at_
 at1:x.at_<=4096
 kn0:0<=x.known
 kn1:x.known<=1048576
 kind:x.kind=1\/x.kind=2\/x.kind=3\/x.kind=4
 held:x.kind≠4->0<=x.right/\x.right< (d.rights.length:Int)/\(d.rights.getD (Int.toNat x.right) default).kind=1/\0<=x.since/\x.since< (d.farms.length:Int)
 pass:x.kind=1->0<=x.to/\x.to< (d.farms.length:Int)/\x.to≠x.since
 split:x.kind=2->PartsOk d x.parts
theorem E1 {d:District}{m:List (Int×Deed)}{x:Deed}(hf:d.farms.length<=600)(hr:d.rights.length<=256)(h:cp d m x=true):Fit d x/\(x.kind=4->mZ .int .deed m x.of_=true/\(dG .int .deed m x.of_).kind≠4/\(dG .int .deed m x.of_).known<=x.known):=by
 unfold cp at h;cases h0:((((!(aJ x.no 0 1048576)) ||(!(aJ x.at_ 0 4096))) ||(!(aJ x.known 0 1048576))) ||(!(ic x)))with
 |true=>rw[h0]at h;cases h
 |false=>
  rw[h0]at h;simp only[Bool.or_eq_false_iff,Bool.not_eq_false']at h0;obtain⟨⟨⟨a1,a2⟩,a3⟩,a4⟩:=h0;rw[o6]at a1 a2 a3;simp only[cond_false]at h;by_cases k1:x.kind=1
  ·rw[show(x.kind==1)=true by simp[k1]]at h;simp only[cond_true,Bool.and_eq_true,beq_iff_eq,bne_iff_ne]at h;obtain⟨⟨⟨⟨b1,b2⟩,b3⟩,b4⟩,b5⟩:=h;rw[w6 _ (by omega)]at b1 b3 b4;exact⟨⟨a1.1,a1.2,a2.1,a2.2,a3.1,a3.2,.inl k1,fun _=>⟨b1.1,b1.2,b2,b3.1,b3.2⟩,fun _=>⟨b4.1,b4.2,b5⟩,fun e=>by omega⟩,fun e=>by omega⟩
  ·rw[show(x.kind==1)=false by simpa using k1]at h;by_cases k2:x.kind=2
   ·rw[show(x.kind==2)=true by simp[k2]]at h;simp only[cond_true,cond_false,Bool.and_eq_true,beq_iff_eq]at h;obtain⟨⟨⟨b1,b2⟩,b3⟩,b4⟩:=h;rw[w6 _ (by omega)]at b1 b3;exact⟨⟨a1.1,a1.2,a2.1,a2.2,a3.1,a3.2,.inr (.inl k2),fun _=>⟨b1.1,b1.2,b2,b3.1,b3.2⟩,fun e=>by omega,fun _=>EN hf b4⟩,fun e=>by omega⟩
   ·rw[show(x.kind==2)=false by simpa using k2]at h;by_cases k3:x.kind=3
    ·rw[show(x.kind==3)=true by simp[k3]]at h;simp only[cond_true,cond_false,Bool.and_eq_true,beq_iff_eq]at h;obtain⟨⟨b1,b2⟩,b3⟩:=h;rw[w6 _ (by omega)]at b1 b3;exact⟨⟨a1.1,a1.2,a2.1,a2.2,a3.1,a3.2,.inr (.inr (.inl k3)),fun _=>⟨b1.1,b1.2,b2,b3.1,b3.2⟩,fun e=>by omega,fun e=>by omega⟩,fun e=>by omega⟩
    ·rw[show(x.kind==3)=false by simpa using k3]at h;by_cases k4:x.kind=4
     ·rw[show(x.kind==4)=true by simp[k4]]at h;simp only[cond_true,cond_false,Bool.and_eq_true,bne_iff_ne,decide_eq_true_eq]at h;obtain⟨⟨b1,b2⟩,b3⟩:=h;exact⟨⟨a1.1,a1.2,a2.1,a2.2,a3.1,a3.2,.inr (.inr (.inr k4)),fun e=>absurd k4 e,fun e=>by omega,fun e=>by omega⟩,fun _=>⟨b1,b2,b3⟩⟩
     ·rw[show(x.kind==4)=false by simpa using k4]at h;simp only[cond_false]at h;cases h
structure Deeds (d:District)(l:List Deed):Prop where
 right:Right1 d
 len:l.length<=512
 asc:Asc l
 fit:∀ x∈l,Fit d x
 void:∀ x∈l,x.kind=4->∃ y∈l,y.no=x.of_/\y.kind≠4/\y.known<=x.known/\y.no<x.no
theorem Bx {d:District}:∀ {r b:List Deed},Chk d b r->∀ x∈r,∃ b',(∃ t,b++r=b'++x::t)/\cp d (mW b') x=true
 | [],_,_,x,hx=>by cases hx
 |y::r,b,⟨h1,h2,h3⟩,x,hx=>by
  rcases List.mem_cons.1 hx with rfl|hx
  ·exact⟨b,⟨r,rfl⟩,h2⟩
  ·obtain⟨b',⟨t,e⟩,h⟩:=Bx h3 x hx;exact⟨b',⟨t,by rw[<-e];simp⟩,h⟩
theorem mb {d:District}{l:List Deed}(h:ah d l=0):Deeds d l:=by
 obtain⟨h1,h2,_,h4⟩:=(qZ d l).1 h;have hr:=yB (d:=d) (by rw[h1];rfl);have hA:=Chk.asc List.Pairwise.nil h4;rw[List.nil_append]at hA;have hf:∀ x∈l,∃ b',(∃ t,l=b'++x::t)/\cp d (mW b') x=true:=fun x hx=>by
  have:=Bx h4 x hx;simpa using this
 refine⟨hr,h2,hA,fun x hx=>?_,fun x hx hk=>?_⟩
 ·obtain⟨b,_,h⟩:=hf x hx;exact(E1 hr.farms hr.rights h).1
 ·obtain⟨b,⟨t,e⟩,h⟩:=hf x hx;obtain⟨q1,q2,q3⟩:=(E1 hr.farms hr.rights h).2 hk;rw[EZ,List.any_eq_true]at q1;obtain⟨y,hy,hn⟩:=q1;have hn:y.no=x.of_:=by simpa using hn
  rw[e]at hA;have hAb:Asc b:=(List.pairwise_append.1 hA).1;rw[<-hn,E0 hAb hy]at q2 q3;exact⟨y,by rw[e];exact List.mem_append_left _ hy,hn,q2,q3,(List.pairwise_append.1 hA).2.2 y hy x List.mem_cons_self⟩
def o7 (l:List Deed)(known n:Int):Bool:=l.any fun v=>v.kind==4&&decide (v.known<=known)&&v.of_==n
def rX (l:List Deed)(hour known:Int):List Deed:=l.filter fun x=>!((((x.kind==4) ||(decide (x.known > known))) ||(decide (x.at_ > hour))) ||o7 l known x.no)
theorem E2 (l:List Deed)(known:Int):∃ m,aq (dq l known) l.length 0 []=.inr m/\∀ n,dG .int .bool m n=o7 l known n:=by
 obtain⟨r,h1,h2⟩:=qa (step:=dq l known) (fun k m=>∀ n,dG .int .bool m n=o7 (l.take k) known n) l.length 0 ([]:List (Int×Bool)) (fun n=>by simp[dG,eI,di,o7]) (fun j s _ hj hs=>by
  rw[Nat.zero_add]at hj;unfold dq;rw[dA l default hj];cases hc:(((l.getD j (default:Deed)).kind==4)&&(decide ((l.getD j (default:Deed)).known<=known)))with
  |true=>
   refine⟨_,rfl,fun n=>?_⟩;rw[nZ];unfold o7 at hs |-;rw[List.any_append];simp only[List.any_cons,List.any_nil,Bool.or_false,hc,Bool.true_and];by_cases hn:n=(l.getD j (default:Deed)).of_
   ·subst hn;simp
   ·rw[if_neg hn,hs];have:((l.getD j (default:Deed)).of_==n)=false:=by simp only[beq_eq_false_iff_ne];exact fun e=>hn e.symm
    rw[this,Bool.or_false]
  |false=>
   refine⟨_,rfl,fun n=>?_⟩;rw[hs];unfold o7;rw[List.any_append];simp only[List.any_cons,List.any_nil,Bool.or_false,hc,Bool.false_and])
 refine⟨r,h1,fun n=>?_⟩;rw[h2,Nat.zero_add,List.take_length]
theorem E3 (K G:List Deed):((sF .deed (K++G) (K.length:Int) ((K++G).length:Int)).take K.length)=K:=by
 unfold sF;simp only[Int.toNat_natCast];split
 ·rename_i h;rw[List.length_append]at h;have:G=[]:=List.eq_nil_of_length_eq_zero (by omega);subst this;simp
 ·simp
theorem E4 {α:Type}{step:Nat->Unit->Int⊕Unit}(l:List α)(d:α)(P:α->Bool)(h:∀ k,k<l.length->step k ()=bif P (l.getD k d)then .inl (k:Int)else .inr ()):(aq step l.length 0 ()=.inr ()/\∀ x∈l,P x=false)\/∃ K x R,l=K++x::R/\aq step l.length 0 ()=.inl (K.length:Int)/\P x=true/\∀ y∈K,P y=false:=by
 have key:∀ (R K:List α),l=K++R->(∀ y∈K,P y=false)->(aq step R.length K.length ()=.inr ()/\∀ x∈l,P x=false)\/∃ K' x R',l=K'++x::R'/\aq step R.length K.length ()=.inl (K'.length:Int)/\P x=true/\∀ y∈K',P y=false:=fun R=>by
  induction R with
  |nil=>exact fun K h hK=>.inl ⟨rfl,fun x hx=>hK x (by rw[h]at hx;simpa using hx)⟩
  |cons x R ih=>
   intro K hl hK;have e:=h K.length (by rw[hl];simp);have g:l.getD K.length d=x:=by rw[hl];simp[List.getD_eq_getElem?_getD]
   rw[g]at e;simp only[List.length_cons,aq,e];cases hx:P x with
   |true=>exact .inr ⟨K,x,R,hl,rfl,hx,hK⟩
   |false=>
    simp only[cond_false];have:=ih (K++[x]) (by rw[hl];simp) (fun y hy=>by
     rcases List.mem_append.1 hy with hy|hy
     ·exact hK y hy
     ·simp at hy;subst hy;exact hx)
    rw[List.length_append]at this;exact this
 exact key l [] rfl (by simp)
theorem CF (l:List Deed)(known hour:Int)(v:List (Int×Bool))(hl:l.length<2 ^ 47):aN l known hour v/\aK l known hour v=l.filter fun x=>!aH x known hour v:=by
 have hI:(ay l known hour v= -1/\∀ x∈l,aH x known hour v=false)\/∃ K x R,l=K++x::R/\ay l known hour v=(K.length:Int)/\aH x known hour v=true/\∀ y∈K,aH y known hour v=false:=by
  unfold ay;rcases E4 (step:=cJ l known hour v) l default (fun x=>aH x known hour v) (fun k _=>rfl)with⟨e,h⟩ | ⟨K,x,R,h1,e,h2,h3⟩
  ·rw[e];exact .inl ⟨rfl,h⟩
  ·rw[e];exact .inr ⟨K,x,R,h1,rfl,h2,h3⟩
 unfold aN aK;rcases hI with⟨e,h⟩ | ⟨K,x,R,hl0,e,h2,h3⟩
 ·rw[e];refine⟨(fun h=>by cases h),?_⟩;simp only[BEq.rfl,cond_true];exact(List.filter_eq_self.2 fun x hx=>by rw[h x hx];rfl).symm
 ·have b:((K.length:Int) == -1)=false:=by simp only[beq_eq_false_iff_ne];omega
  have hlen:l.length=K.length+(R.length+1):=by rw[hl0];simp
  have w:i64.wrap ((K.length:Int)+1)=((K.length+1:Nat):Int):=by rw[bB (by omega) (by omega)];omega
  rw[e,w];simp only[b,cond_false];obtain⟨k1,r,k2,K',G',rfl,k3⟩:okI (aZ l known hour v) (bi l known hour v) (l.length+1) 0 (l,(K.length:Int),((K.length+1:Nat):Int))/\∃ r,aq (aZ l known hour v) (l.length+1) 0 (l,(K.length:Int),((K.length+1:Nat):Int))=.inl r/\∃ K' G',r=((K'.length:Int),K'++G')/\K'=l.filter fun x=>!aH x known hour v:=by
   refine tZ (fun s:List Deed×Int×Int=>((l.length:Int) - s.2.2).toNat) (fun s:List Deed×Int×Int=>∃ K' g G' R',s=(K'++g::(G'++R'),(K'.length:Int),((K'.length+(G'.length+1):Nat):Int))/\K'.length+(G'.length+1)+R'.length=l.length/\(l.filter fun x=>!aH x known hour v)=K'++R'.filter fun x=>!aH x known hour v) _ ?_ _ _ _ ⟨K,x,[],R,by rw[hl0];simp,by rw[hlen];simp;omega,?_⟩ (by simp only;omega)
   ·rintro k s ⟨K',g,G',R',rfl,hn,hF⟩;have hL:(K'++g::(G'++R')).length=l.length:=by rw[<-hn];simp;omega
    unfold bi aZ;simp only[hL];cases R' with
    |nil=>
     have e1:decide (((K'.length+(G'.length+1):Nat):Int) < (l.length:Int))=false:=by rw[decide_eq_false_iff_not];simp only[List.length_nil]at hn;omega
     simp only[e1,cond_false];exact⟨(fun _ h=>by cases h),.inl ⟨_,rfl,K',g::(G'++[]),rfl,by simpa using hF.symm⟩⟩
    |cons y R'=>
     simp only[List.length_cons]at hn;have e1:decide (((K'.length+(G'.length+1):Nat):Int) < (l.length:Int))=true:=by rw[decide_eq_true_eq];omega
     have gy:(K'++g::(G'++y::R')).getD (K'.length+(G'.length+1)) default=y:=by
      have:K'++g::(G'++y::R')=(K'++g::G')++y::R':=by simp
      rw[this];exact i7 _ _ _ _ (by simp)
     have w1:i64.wrap (((K'.length+(G'.length+1):Nat):Int)+1)=((K'.length+(G'.length+1)+1:Nat):Int):=by rw[bB (by omega) (by omega)];omega
     have w2:i64.wrap ((K'.length:Int)+1)=((K'.length+1:Nat):Int):=by rw[bB (by omega) (by omega)];omega
     simp only[e1,cond_true,Int.toNat_natCast,gy,w1,w2];refine⟨fun _ _=>⟨by omega,fun _=>by omega⟩,.inr ?_⟩;cases hy:aH y known hour v with
     |false=>
      obtain⟨g',G2,hG⟩:∃ g' G2,G'++[y]=g'::G2:=by
       cases G' with
       |nil=>exact⟨y,[],rfl⟩
       |cons a b=>exact⟨a,b++[y],rfl⟩
      have hGl:G'.length+1=G2.length+1:=by have:=congrArg List.length hG;simpa using this
      refine⟨_,rfl,by simp only;omega,K'++[y],g',G2,R',?_,?_,?_⟩
      ·rw[mH K' g y _ rfl];have h1:g'::(G2++R')=G'++y::R':=by rw[<-List.cons_append,<-hG];simp
       rw[List.append_assoc,h1,Prod.mk.injEq,Prod.mk.injEq];refine⟨by simp,by simp,?_⟩;rw[List.length_append];simp only[List.length_cons,List.length_nil];omega
      ·rw[List.length_append];simp only[List.length_cons,List.length_nil];omega
      ·rw[hF,List.filter_cons_of_pos (by rw[hy];rfl)];simp
     |true=>
      refine⟨_,rfl,by simp only;omega,K',g,G'++[y],R',?_,by rw[List.length_append];simp only[List.length_cons,List.length_nil];omega,?_⟩
      ·have:(G'++[y])++R'=G'++y::R':=by simp
       rw[this,List.length_append,Prod.mk.injEq,Prod.mk.injEq];exact⟨rfl,rfl,by simp only[List.length_cons,List.length_nil];omega⟩
      ·rw[hF,List.filter_cons_of_neg (by rw[hy];simp)]
   ·rw[hl0,List.filter_append,List.filter_cons_of_neg (by rw[h2];simp)];congr 1
    exact List.filter_eq_self.2 fun y hy=>by rw[h3 y hy];rfl
  refine⟨fun _=>⟨k1,rG (Q:=fun _=>True) ⟨_,k2,trivial⟩,fun z hz=>?_⟩,?_⟩
  ·rw[k2]at hz;cases hz;have:(sF .deed (K'++G') (K'.length:Int) ((K'++G').length:Int)).length=(K'++G').length:=by
    unfold sF;simp only[Int.toNat_natCast];split
    ·rfl
    ·simp <;>omega
   simp only[this];simp only[List.length_append];omega
  ·rw[k2];simp only[Int.toNat_natCast,List.drop_zero];rw[E3,k3]
theorem rJ (l:List Deed)(hour known:Int)(hl:l.length<=512):dB l hour known/\ce l hour known=stS (rX l hour known):=by
 obtain⟨m,e,hm⟩:=E2 l known;have hp:∀ x,aH x known hour m=((((x.kind==4) ||(decide (x.known > known))) ||(decide (x.at_ > hour))) ||o7 l known x.no):=fun x=>by
  unfold aH;rw[hm]
 obtain⟨d1,d2⟩:=CF l known hour m (by omega);have d3:(l.filter fun x=>!aH x known hour m)=rX l hour known:=by unfold rX;simp only[hp]
 rw[d3]at d2;have hlen:(rX l hour known).length<=l.length:=List.length_filter_le _ _;obtain⟨s1,s2⟩:=yL (rX l hour known) (by omega);unfold dB ce;rw[e];refine⟨fun _ z hz=>?_,?_⟩
 ·cases hz;rw[d2];exact⟨by unfold fY;omega,d1,s1⟩
 ·simp only[d2,s2]
theorem n9 (l:List Deed):ax l=l:=by
 obtain⟨r,h1,h2⟩:=qa (step:=bL l) (fun k s=>s=l.take k) l.length 0 ([]:List Deed) (by simp) (fun j s _ hj hs=>⟨_,rfl,by rw[dA l default (by omega),hs]⟩);unfold ax;rw[h1];simp only[h2,Nat.zero_add,List.take_length]
theorem E5 (l:List Deed):bQ l ((ax l).map rF):=fun _=>by
 rw[n9];refine⟨se (fun k s=>s=l.take k) _ _ _ (by simp) (fun j s _ hj hs=>⟨?_,fun s' h=>?_⟩),fun s h=>?_⟩
 ·rw[Nat.zero_add]at hj;unfold cg;rw[hs,List.length_take,Nat.min_eq_left (by omega),List.getElem?_map,List.getElem?_eq_getElem hj,nY l _ hj];rfl
 ·rw[Nat.zero_add]at hj;unfold bL at h;cases h;rw[dA l default hj,hs]
 ·have:=n9 l;unfold ax at this;rw[h]at this;simp only at this;rw[this,List.length_map]
theorem By {n d:Int}(hd:1<=d)(hd2:d<=1073741824)(h1: -1152921504606846976<=n)(h2:n<=1152921504606846976):ju n d=n / d:=by
 unfold ju;have e1:Int.tmod (Int.tmod n d+d) d=n % d:=by
  have a1: -d<Int.tmod n d:=Int.lt_tmod_of_pos n (by omega);rw[Int.tmod_eq_emod_of_nonneg (by omega),Int.add_emod_right];rw[Int.tmod_eq_emod];split
  ·show(n % d - 0) % d=n % d;rw[Int.sub_zero,Int.emod_emod]
  ·have:n % d - (d.natAbs:Int)=n % d+d*(-1):=by omega
   rw[this,Int.add_mul_emod_self_left,Int.emod_emod]
 have a1: -d<Int.tmod n d:=Int.lt_tmod_of_pos n (by omega);have a2:Int.tmod n d<d:=Int.tmod_lt_of_pos n (by omega);rw[bB (by omega: -9223372036854775808<=Int.tmod n d+d) (by omega),e1];have b1:=Int.emod_nonneg n (by omega:d≠0);have b2:=Int.emod_lt_of_pos n (by omega:0<d);rw[bB (by omega: -9223372036854775808<=n - n % d) (by omega)];have e2:n - n % d=d*(n / d):=by have:=Int.mul_ediv_add_emod n d;omega
 rw[e2,Int.mul_tdiv_cancel_left _ (by omega)];have c1:n / d<=1152921504606846976:=by
  have:=Int.ediv_le_ediv (by omega:0<d) h2;have:=Int.ediv_le_self (b:=d) (by omega:(0:Int)<=1152921504606846976);omega
 have c2: -1152921504606846976<=n / d:=by
  rw[Int.le_ediv_iff_mul_le (by omega)];have:=Int.mul_le_mul_of_nonneg_left (by omega:1<=d) (by omega:(0:Int)<=1152921504606846976);omega
 exact bB (by omega) (by omega)
def fU {κ υ:Type}(l:List (κ×υ)):List κ:=l.map fun p=>p.1
theorem vM {κ υ:Type}[DecidableEq κ]:∀ {l:List (κ×υ)} {x:κ},x ∉ fU l->eI l x=none
 | [],_,_=>rfl
 |(a,b)::r,x,h=>by
  unfold eI;rw[if_neg (fun e=>h (by simp[fU,e]))];exact vM fun hm=>h (by simp only[fU,List.map_cons,List.mem_cons]at hm |-;exact .inr hm)
theorem uc {κ υ:Type}[DecidableEq κ]:∀ {l:List (κ×υ)},(fU l).Nodup->∀ {x:κ} {y:υ},eI l x=some y↔(x,y)∈l
 | [],_,x,y=>by simp[eI]
 |(a,b)::r,h,x,y=>by
  have h':=List.nodup_cons.1 h;unfold eI;by_cases e:x=a
  ·subst e;rw[if_pos rfl];simp only[Option.some.injEq,List.mem_cons,Prod.mk.injEq,true_and];refine⟨fun h=>.inl h.symm,fun h=>?_⟩;rcases h with h|h
   ·exact h.symm
   ·exact absurd (List.mem_map_of_mem (f:=fun p:κ×υ=>p.1) h) h'.1
  ·rw[if_neg e,uc h'.2];simp only[List.mem_cons,Prod.mk.injEq,e,false_and,false_or]
theorem mc {κ υ:Type}[DecidableEq κ](x:κ)(y:υ):∀ (l:List (κ×υ)),(fU l).Nodup->(fU (pa l x y)).Nodup/\∀ z,z∈fU (pa l x y)->z=x\/z∈fU l
 | [],_=>by simp[pa,fU]
 |(a,b)::r,h=>by
  have h':=List.nodup_cons.1 h;unfold pa;by_cases e:x=a
  ·subst e;rw[if_pos rfl];exact⟨h,fun z hz=>.inr hz⟩
  ·rw[if_neg e];obtain⟨g1,g2⟩:=mc x y r h'.2;refine⟨List.nodup_cons.2 ⟨fun hm=>?_,g1⟩,fun z hz=>?_⟩
   ·rcases g2 _ hm with h3|h3
    ·exact e h3.symm
    ·exact h'.1 h3
   ·rcases List.mem_cons.1 hz with rfl|hz
    ·exact .inr List.mem_cons_self
    ·rcases g2 z hz with h3|h3
     ·exact .inl h3
     ·exact .inr (List.mem_cons_of_mem _ h3)
theorem q_ {κ υ:Type}[DecidableEq κ](x:κ):∀ (l:List (κ×υ)),(fU l).Nodup->(fU (qv l x)).Nodup/\(∀ z,z∈fU (qv l x)->z∈fU l)/\∀ z,eI (qv l x) z=if z=x then none else eI l z
 | [],_=>by simp[qv,fU,eI]
 |(a,b)::r,h=>by
  have h':=List.nodup_cons.1 h;unfold qv;by_cases e:x=a
  ·subst e;rw[if_pos rfl];refine⟨h'.2,fun z hz=>List.mem_cons_of_mem _ hz,fun z=>?_⟩;by_cases hz:z=x
   ·subst hz;rw[if_pos rfl];exact vM h'.1
   ·rw[if_neg hz];simp only[eI,if_neg hz]
  ·rw[if_neg e];obtain⟨g1,g2,g3⟩:=q_ x r h'.2;refine⟨List.nodup_cons.2 ⟨fun hm=>h'.1 (g2 _ hm),g1⟩,fun z hz=>?_,fun z=>?_⟩
   ·rcases List.mem_cons.1 hz with rfl|hz
    ·exact List.mem_cons_self
    ·exact List.mem_cons_of_mem _ (g2 z hz)
   ·simp only[eI,g3];by_cases hz:z=a
    ·subst hz;rw[if_pos rfl,if_neg (fun e2=>e e2.symm),if_pos rfl]
    ·simp only[if_neg hz]
def tot:Nat->(Int->Int)->Int
 |0,_=>0
 |n+1,g=>tot n g+g (n:Int)
def gM (g:Int->Int)(f v:Int):Int->Int:=fun x=>if x=f then v else g x
theorem yT {g h:Int->Int}:∀ {n:Nat},(∀ f:Int,0<=f->f< (n:Int)->g f=h f)->tot n g=tot n h
 |0,_=>rfl
 |n+1,e=>by unfold tot;rw[yT (n:=n) fun f h1 h2=>e f h1 (by omega),e n (by omega) (by omega)]
theorem n_ (g:Int->Int)(f v:Int):∀ (n:Nat),0<=f->f< (n:Int)->tot n (gM g f v)=tot n g - g f+v
 |0,h0,h1=>by omega
 |n+1,h0,h1=>by
  unfold tot;by_cases h:f=(n:Int)
  ·subst h;rw[yT (g:=gM g n v) (h:=g) fun x _ hx=>by unfold gM;rw[if_neg (by omega)]];unfold gM;rw[if_pos rfl];omega
  ·rw[n_ g f v n h0 (by omega)];unfold gM;rw[if_neg (fun e=>h e.symm)];omega
theorem E6 {g:Int->Int}(h:∀ f,0<=g f):∀ n,0<=tot n g
 |0=>Int.le_refl _
 |n+1=>by have:=E6 h n;have:=h n;unfold tot;omega
theorem xg {g:Int->Int}(h:∀ f,0<=g f):∀ (n:Nat) (f:Int),0<=f->f< (n:Int)->g f<=tot n g
 |0,f,h0,h1=>by omega
 |n+1,f,h0,h1=>by
  unfold tot;have h2:=E6 h n;by_cases e:f=(n:Int)
  ·subst e;omega
  ·have:=xg h n f h0 (by omega);have:=h n;omega
structure Good (F:Nat)(L:Int)(g:Int->Int):Prop where
 nn:∀ f,0<=g f
 sup:∀ f,g f≠0->0<=f/\f< (F:Int)
 tot:tot F g<=L
theorem Good.le {F:Nat}{L:Int}{g:Int->Int}(h:Good F L g)(hL:0<=L)(f:Int):g f<=L:=by
 by_cases e:g f=0
 ·omega
 ·obtain⟨a,b⟩:=h.sup f e;exact Int.le_trans (xg h.nn F f a b) h.tot
theorem Good.put {F:Nat}{L M:Int}{g:Int->Int}(h:Good F L g){f v:Int}(h0:0<=f)(h1:f< (F:Int))(hv:0<=v)(hM:Go.Sx.tot F g - g f+v<=M):Good F M (gM g f v) where
 nn:=fun x=>by unfold gM;split;exact hv;exact h.nn x
 sup:=fun x hx=>by
  unfold gM at hx;split at hx
  ·rename_i e;rw[e];exact⟨h0,h1⟩
  ·exact h.sup x hx
 tot:=by rw[n_ g f v F h0 h1];exact hM
def loP (p:Part)(n:Int):Int:=p.share.n*n / p.share.d
theorem E7 {a:Ratio}(h:RatioOk a){n:Int}(h0:0<=n)(h1:n<=1073741824):(ef a n).1=a.n*n / a.d/\(ef a n).2.1= -(-(a.n*n) / a.d)/\(ef a n).2.2=0:=by
 have hb: -1152921504606846976<=a.n*n/\a.n*n<=1152921504606846976:=by
  have:(a.n*n).natAbs<=1073741824*1073741824:=by rw[Int.natAbs_mul];exact Nat.mul_le_mul (by have:=h.n0;have:=h.n;omega) (by omega)
  omega
 have hd:=h.d1;have hd2:=h.d;have hn0:=h.n0;have hn1:=h.n;unfold ef;rw[(gL a).2 h];have e:(decide (n< -1073741824) ||decide (n > 1073741824))=false:=by simp;omega
 simp only[bne_self_eq_false,cond_false,e];have ee: -a.n*n= -(a.n*n):=Int.neg_mul _ _;rw[bB (n:=a.n*n) (by omega) (by omega),bB (n:=0 - a.n) (by omega) (by omega),show 0 - a.n= -a.n by omega,ee,bB (n:= -(a.n*n)) (by omega) (by omega),By hd hd2 (by omega) (by omega),By hd hd2 (by omega) (by omega)];refine⟨rfl,?_,trivial⟩;have c1: -(a.n*n) / a.d<=1152921504606846976:=by
  have:=Int.ediv_le_ediv (by omega:0<a.d) (by omega: -(a.n*n)<=1152921504606846976);have:=Int.ediv_le_self (b:=a.d) (by omega:(0:Int)<=1152921504606846976);omega
 have c2: -1152921504606846976<= -(a.n*n) / a.d:=by
  rw[Int.le_ediv_iff_mul_le (by omega)];have:=Int.mul_le_mul_of_nonneg_left (by omega:1<=a.d) (by omega:(0:Int)<=1152921504606846976);omega
 rw[bB (by omega) (by omega)];omega
theorem E8 {p:Part}(h:RatioOk p.share)(hp:0<p.share.n){n:Int}(h0:0<=n):0<=loP p n:=by
 unfold loP;exact Int.ediv_nonneg (Int.mul_nonneg (by omega) h0) (by have:=h.d1;omega)
theorem E9 {x d:Rat}(hd:0<d)(h:0<=x*d):0<=x:=by
 rcases Classical.em (0<=x)with h1|h1
 ·exact h1
 ·have h2:0< -x:=by grind
  have h3:=Rat.mul_pos h2 hd;grind
theorem KJ {p:Part}(h:RatioOk p.share)(n:Int):((loP p n:Int):Rat)<=rv p.share*(n:Rat)/\rv p.share*(n:Rat)<=((loP p n:Int):Rat)+1:=by
 have hd:=h.d1;have d0:(0:Rat) < (p.share.d:Rat):=by exact_mod_cast (by omega:(0:Int) <p.share.d)
 have dn:(p.share.d:Rat)≠0:=jW (by omega);have e1:rv p.share*(p.share.d:Rat)=(p.share.n:Rat):=by unfold rv;exact Rat.div_mul_cancel dn
 have q:=Int.mul_ediv_add_emod (p.share.n*n) p.share.d;have q1:=Int.emod_nonneg (p.share.n*n) (by omega:p.share.d≠0);have q2:=Int.emod_lt_of_pos (p.share.n*n) (by omega:0<p.share.d);have r1:p.share.d*loP p n<=p.share.n*n:=by unfold loP;omega
 have r2:p.share.n*n<=p.share.d*loP p n+p.share.d:=by unfold loP;omega
 have r1':(p.share.d:Rat)*((loP p n:Int):Rat)<=(p.share.n:Rat)*(n:Rat):=by exact_mod_cast r1
 have r2':(p.share.n:Rat)*(n:Rat)<=(p.share.d:Rat)*((loP p n:Int):Rat)+(p.share.d:Rat):=by exact_mod_cast r2
 rw[<-e1]at r1' r2';generalize ((loP p n:Int):Rat)=lo at *;generalize (n:Rat)=m at *;generalize rv p.share=v at *;generalize (p.share.d:Rat)=d at *;constructor
 ·have:=E9 (x:=v*m - lo) d0 (by grind);grind
 ·have:=E9 (x:=lo+1 - v*m) d0 (by grind);grind
def cO (l:List Part)(n:Int):Int:=(l.map fun p=>loP p n).sum
theorem KK {l:List Part}(h:∀ p∈l,RatioOk p.share)(n:Int):((cO l n:Int):Rat)<=qb l*(n:Rat)/\qb l*(n:Rat)<=((cO l n+(l.length:Int):Int):Rat):=by
 induction l with
 |nil=>simp[cO,qb,Rat.zero_mul]
 |cons p r ih=>
  obtain⟨i1,i2⟩:=ih fun q hq=>h q (List.mem_cons_of_mem _ hq);obtain⟨j1,j2⟩:=KJ (h p List.mem_cons_self) n;have e:cO (p::r) n=loP p n+cO r n:=by simp[cO]
  have e1:((cO (p::r) n:Int):Rat)=((loP p n:Int):Rat)+((cO r n:Int):Rat):=by rw[e];exact_mod_cast rfl
  have e2:((cO (p::r) n+((p::r).length:Int):Int):Rat)=(((loP p n:Int):Rat)+1)+((cO r n+(r.length:Int):Int):Rat):=by
   have:cO (p::r) n+((p::r).length:Int)=(loP p n+1)+(cO r n+(r.length:Int)):=by rw[e];simp only[List.length_cons];omega
   rw[this];exact_mod_cast rfl
  rw[e1,e2];simp only[qb];generalize ((loP p n:Int):Rat)=a at *;generalize ((cO r n:Int):Rat)=b at *;generalize ((cO r n+(r.length:Int):Int):Rat)=c at *;generalize (n:Rat)=m at *;generalize rv p.share=v at *;generalize qb r=w at *;constructor <;>grind
theorem Bz {d:District}{l:List Part}(h:PartsOk d l)(n:Int):cO l n<=n/\n<=cO l n+(l.length:Int):=by
 obtain⟨h1,h2⟩:=KK (fun p hp=>(h.part p hp).share) n;rw[h.sum,Rat.one_mul]at h1 h2;exact⟨by exact_mod_cast h1,by exact_mod_cast h2⟩
def qh (l:List Part)(n:Int)(g:Int->Int):Int->Int:=l.foldl (fun g p=>gM g p.farm (g p.farm+loP p n)) g
def mf (l:List Part)(g:Int->Int):Int->Int:=l.foldl (fun g p=>gM g p.farm (g p.farm+1)) g
def ud (l:List Part)(n:Int)(g:Int->Int):Int->Int:=mf (l.take (n - cO l n).toNat) (qh l n g)
def xh (x:Deed)(g:Int->Int):Int->Int:=
 if g x.since=0 then g else
 if x.kind=1 then gM (gM g x.since 0) x.to (gM g x.since 0 x.to+g x.since)else
 if x.kind=2 then ud x.parts (g x.since) (gM g x.since 0)else gM g x.since 0
theorem CG (l:List Part)(p:Part)(n:Int)(g:Int->Int):qh (l++[p]) n g=gM (qh l n g) p.farm (qh l n g p.farm+loP p n):=by
 unfold qh;rw[List.foldl_append];rfl
theorem At (l:List Part)(p:Part)(g:Int->Int):mf (l++[p]) g=gM (mf l g) p.farm (mf l g p.farm+1):=by
 unfold mf;rw[List.foldl_append];rfl
theorem ue (l:List Part)(p:Part)(n:Int):cO (l++[p]) n=cO l n+loP p n:=by
 unfold cO;simp
def PFit (F:Nat)(l:List Part):Prop:= ∀ p∈l,0<=p.farm/\p.farm< (F:Int)/\RatioOk p.share/\0<p.share.n
theorem PartsOk.fit {d:District}{l:List Part}(h:PartsOk d l):PFit d.farms.length l:=fun p hp=>⟨(h.part p hp).f0,(h.part p hp).f1,(h.part p hp).share,(h.part p hp).pos⟩
theorem oa {F:Nat}{n:Int}(h0:0<=n):∀ (l:List Part) (g:Int->Int) (M:Int),PFit F l->Good F M g->Good F (M+cO l n) (qh l n g)/\tot F (qh l n g)=tot F g+cO l n
 | [],g,M,_,hg=>by simpa[qh,cO]using hg
 |p::l,g,M,hl,hg=>by
  obtain⟨a,b,c,e⟩:=hl p List.mem_cons_self;have hlo:=E8 c e h0;have hgf:=hg.nn p.farm;have h1:Good F (M+loP p n) (gM g p.farm (g p.farm+loP p n)):=hg.put a b (by omega) (by have:=hg.tot;omega);obtain⟨q1,q2⟩:=oa h0 l _ _ (fun q hq=>hl q (List.mem_cons_of_mem _ hq)) h1;have e1:cO (p::l) n=loP p n+cO l n:=by simp[cO]
  rw[n_ g p.farm _ F a b]at q2;rw[e1];refine⟨by rw[show M+(loP p n+cO l n)=M+loP p n+cO l n by omega];exact q1,?_⟩;show tot F (qh l n (gM g p.farm (g p.farm+loP p n)))=_;rw[q2];omega
theorem o8 {F:Nat}:∀ (l:List Part) (g:Int->Int) (M:Int),PFit F l->Good F M g->Good F (M+l.length) (mf l g)/\tot F (mf l g)=tot F g+l.length
 | [],g,M,_,hg=>by simpa[mf]using hg
 |p::l,g,M,hl,hg=>by
  obtain⟨a,b,c,e⟩:=hl p List.mem_cons_self;have hgf:=hg.nn p.farm;have h1:Good F (M+1) (gM g p.farm (g p.farm+1)):=hg.put a b (by omega) (by have:=hg.tot;omega);obtain⟨q1,q2⟩:=o8 l _ _ (fun q hq=>hl q (List.mem_cons_of_mem _ hq)) h1;rw[n_ g p.farm _ F a b]at q2;simp only[List.length_cons];refine⟨by rw[show M+((l.length+1:Nat):Int)=M+1+(l.length:Int) by omega];exact q1,?_⟩;show tot F (mf l (gM g p.farm (g p.farm+1)))=_;rw[q2];omega
theorem PFit.take {F:Nat}{l:List Part}(h:PFit F l)(k:Nat):PFit F (l.take k):=fun p hp=>h p (List.mem_of_mem_take hp)
theorem Au {d:District}{l:List Part}(h:PartsOk d l){n M:Int}(h0:0<=n){g:Int->Int}(hg:Good d.farms.length M g):Good d.farms.length (M+n) (ud l n g)/\tot d.farms.length (ud l n g)=tot d.farms.length g+n:=by
 obtain⟨q1,q2⟩:=oa h0 l g M h.fit hg;obtain⟨r1,r2⟩:=o8 (l.take (n - cO l n).toNat) _ _ (h.fit.take _) q1;obtain⟨l1,l2⟩:=Bz h n;have e:((l.take (n - cO l n).toNat).length:Int)=n - cO l n:=by rw[List.length_take];omega
 rw[e]at r1 r2;refine⟨by rw[show M+n=M+cO l n+(n - cO l n) by omega];exact r1,?_⟩;show tot _ (mf _ _)=_;rw[r2,q2];omega
theorem E_ {d:District}{x:Deed}(hx:Fit d x)(hk:x.kind≠4){L:Int}{g:Int->Int}(hg:Good d.farms.length L g):Good d.farms.length L (xh x g)/\(x.kind≠3->tot d.farms.length (xh x g)=tot d.farms.length g):=by
 obtain⟨_,_,_,s0,s1⟩:=hx.held hk;unfold xh;by_cases hn:g x.since=0
 ·rw[if_pos hn];exact⟨hg,fun _=>rfl⟩
 rw[if_neg hn];have hnn:=hg.nn x.since;have hT:=hg.tot;have g1:Good d.farms.length (L - g x.since) (gM g x.since 0):=hg.put s0 s1 (Int.le_refl _) (by omega);have t1:=n_ g x.since 0 d.farms.length s0 s1;by_cases k1:x.kind=1
 ·rw[if_pos k1];obtain⟨a,b,c⟩:=hx.pass k1;have h1:=g1.nn x.to;have t2:=n_ (gM g x.since 0) x.to (gM g x.since 0 x.to+g x.since) d.farms.length a b;exact⟨g1.put a b (by omega) (by omega),fun _=>by omega⟩
 rw[if_neg k1];by_cases k2:x.kind=2
 ·rw[if_pos k2];obtain⟨q1,q2⟩:=Au (hx.split k2) hnn g1;rw[show L - g x.since+g x.since=L by omega]at q1;exact⟨q1,fun _=>by omega⟩
 ·rw[if_neg k2];refine⟨⟨g1.nn,g1.sup,by have:=g1.tot;omega⟩,fun k3=>?_⟩;rcases hx.kind with e|e|e|e <;>omega
abbrev BM:=List (RegisterTitle×Int)
abbrev RT (r f:Int):RegisterTitle:= { right:=r,farm:=f}
def bk (m:BM):Int->Int->Int:=fun r f=>dG .registerTitle .int m (RT r f)
theorem BA {a b c e:Int}:RT a b=RT c e↔a=c/\b=e:=by simp[RT]
theorem xi (m:BM)(r f v:Int):bk (fe .registerTitle .int m (RT r f) v)=fun r'=>if r'=r then gM (bk m r) f v else bk m r':=by
 funext r' f'
 unfold bk;rw[nZ];by_cases h:r'=r
 ·subst h;rw[if_pos rfl];unfold gM;by_cases h2:f'=f
  ·subst h2;simp
  ·rw[if_neg (fun e=>h2 (BA.1 e).2),if_neg h2]
 ·rw[if_neg (fun e=>h (BA.1 e).1),if_neg h]
theorem KL (m:BM)(hN:(fU m).Nodup)(r f:Int):bk (kJ .registerTitle .int m (RT r f))=fun r'=>if r'=r then gM (bk m r) f 0 else bk m r':=by
 funext r' f'
 unfold bk dG kJ;have e:=(q_ (RT r f) m hN).2.2 (RT r' f');have e':eI (qv m (RT r f)) (RT r' f')=if RT r' f'=RT r f then none else eI m (RT r' f'):=e;by_cases h:r'=r
 ·subst h;rw[if_pos rfl];unfold gM;by_cases h2:f'=f
  ·subst h2;rw[e',if_pos rfl,if_pos rfl];rfl
  ·rw[e',if_neg (fun e=>h2 (BA.1 e).2),if_neg h2]
 ·rw[if_neg h,e',if_neg (fun e=>h (BA.1 e).1)]
theorem Good.le30 {F:Nat}{L:Int}{g:Int->Int}(h:Good F L g)(hL:L<=2147483648)(f:Int):0<=g f/\g f<=2147483648:=by
 have h1:=h.nn f;by_cases e:g f=0
 ·omega
 ·obtain⟨a,b⟩:=h.sup f e;have:=xg h.nn F f a b;have:=h.tot;omega
theorem CH {d:District}{x:Deed}(hx:PartsOk d x.parts){n:Int}(h0:0<=n)(h1:n<=1073741824){m:BM}(hN:(fU m).Nodup){M:Int}(hM:M+n<=2147483648)(hg:Good d.farms.length M (bk m x.right)):
  dg x n m/\(fU (b6 x n m)).Nodup/\bk (b6 x n m)=fun r=>if r=x.right then ud x.parts n (bk m r)else bk m r:=by
 obtain⟨l1,l2⟩:=Bz hx n;obtain⟨⟨m1,lf⟩,e1,a1,a2,a3⟩:=qa (step:=a8 x n) (fun k (s:BM×Int) =>(fU s.1).Nodup/\(bk s.1=fun r=>if r=x.right then qh (x.parts.take k) n (bk m r)else bk m r)/\s.2=n - cO (x.parts.take k) n) x.parts.length 0 (m,n) ⟨hN,by funext r;by_cases h:r=x.right <;>simp[h,qh],by simp[cO]⟩ (fun j s _ hj ⟨j1,j2,j3⟩ =>by
  rw[Nat.zero_add]at hj;have hm:x.parts.getD j default∈x.parts:=by rw[nY _ _ hj];exact List.getElem_mem _
  obtain⟨f0,f1,f2,f3⟩:=hx.fit _ hm;have elo:(ef (x.parts.getD j default).share n).1=loP (x.parts.getD j default) n:=(E7 f2 h0 h1).1;have hlo:=E8 f2 f3 h0;obtain⟨q1,q2⟩:=oa h0 (x.parts.take j) _ _ (hx.fit.take _) hg;have hs:∀ k,0<=cO (x.parts.take k) n/\cO (x.parts.take k) n<=cO x.parts n:=fun k=>by
   have key:∀ l:List Part,PFit d.farms.length l->0<=cO l n:=fun l=>by
    induction l with
    |nil=>intro _;simp[cO]
    |cons p r ih=>
     intro hp;obtain⟨_,_,c,e⟩:=hp p List.mem_cons_self;have:=E8 c e h0;have:=ih fun q hq=>hp q (List.mem_cons_of_mem _ hq);have e:cO (p::r) n=loP p n+cO r n:=by simp[cO]
     omega
   have h1:=key _ (hx.fit.take k);have h2:=key (x.parts.drop k) fun p hp=>hx.fit p (List.mem_of_mem_drop hp);have h3:cO x.parts n=cO (x.parts.take k) n+cO (x.parts.drop k) n:=by
    conv=>lhs;rw[<-List.take_append_drop k x.parts]
    unfold cO;rw[List.map_append,List.sum_append]
   omega
  have hsj:=hs j;have hsj1:=hs (j+1);rw[dA _ default hj,ue]at hsj1;have hv:=q1.le30 (by omega) (x.parts.getD j default).farm;have ebk:dG .registerTitle .int s.1 (RT x.right (x.parts.getD j default).farm)=qh (x.parts.take j) n (bk m x.right) (x.parts.getD j default).farm:=by
   have:=congrFun (congrFun j2 x.right) (x.parts.getD j default).farm;simpa[bk]using this
  refine⟨_,rfl,?_,?_,?_⟩
  ·exact(mc _ _ _ j1).1
  ·simp only[elo];rw[ebk,bB (by omega) (by omega),xi,j2];funext r
   by_cases h:r=x.right
   ·subst h;simp only[if_true];rw[dA _ default hj,CG]
   ·simp only[if_neg h]
  ·simp only[elo,j3];rw[bB (by omega) (by omega),dA _ default hj,ue];omega)
 rw[Nat.zero_add,List.take_length]at a2 a3;simp only at a1 a2 a3;have hlf:0<=lf/\lf<=(x.parts.length:Int):=by omega
 obtain⟨q1,q2⟩:=oa h0 x.parts _ _ hx.fit hg;have tk:(x.parts.take lf.toNat).drop 0=x.parts.take lf.toNat:=by simp
 have tkl:(x.parts.take lf.toNat).length=lf.toNat:=by rw[List.length_take];omega
 obtain⟨m2,e2,b1,b2⟩:=qa (step:=eb x (m1,lf)) (fun k (s:BM) =>(fU s).Nodup/\(bk s=fun r=>if r=x.right then mf ((x.parts.take lf.toNat).take k) (qh x.parts n (bk m r))else bk m r)) lf.toNat 0 m1 ⟨a1,by rw[a2];funext r;by_cases h:r=x.right <;>simp[h,mf]⟩ (fun j s _ hj ⟨j1,j2⟩ =>by
  rw[Nat.zero_add]at hj;have hj':j< (x.parts.take lf.toNat).length:=by omega
  have hm:(x.parts.take lf.toNat).getD j default∈x.parts.take lf.toNat:=by rw[nY _ _ hj'];exact List.getElem_mem _
  obtain⟨r1,r2⟩:=o8 ((x.parts.take lf.toNat).take j) _ _ ((hx.fit.take _).take _) q1;have hlen:((x.parts.take lf.toNat).take j).length=j:=by rw[List.length_take];omega
  have hv:=r1.le30 (by omega) ((x.parts.take lf.toNat).getD j default).farm;have ebk:dG .registerTitle .int s (RT x.right ((x.parts.take lf.toNat).getD j default).farm)=mf ((x.parts.take lf.toNat).take j) (qh x.parts n (bk m x.right)) ((x.parts.take lf.toNat).getD j default).farm:=by
   have:=congrFun (congrFun j2 x.right) ((x.parts.take lf.toNat).getD j default).farm;simpa[bk]using this
  refine⟨_,rfl,?_,?_⟩
  ·exact(mc _ _ _ j1).1
  ·simp only[tk];rw[ebk,bB (by omega) (by omega),xi,j2];funext r
   by_cases h:r=x.right
   ·subst h;simp only[if_true];rw[dA _ default hj',At]
   ·simp only[if_neg h])
 rw[Nat.zero_add]at b2;have e2':aq (eb x (m1,lf)) ((x.parts.take lf.toNat).drop 0).length 0 m1=.inr m2:=by rw[tk,tkl];exact e2
 have eR:b6 x n m=m2:=by
  unfold b6;rw[e1];simp only[e2']
 refine⟨fun _ z hz=>?_,?_,?_⟩
 ·rw[e1]at hz;cases hz;exact⟨by omega,hlf.1,hlf.2⟩
 ·rw[eR];exact b1
 ·rw[eR,b2];funext r
  by_cases h:r=x.right
  ·simp only[if_pos h];unfold ud;rw[<-a3,List.take_take,Nat.min_self]
  ·simp only[if_neg h]
def mg (x:Deed)(B:Int->Int->Int):Int->Int->Int:=fun r=>if r=x.right then xh x (B r)else B r
def Fa (ds:List Deed)(B:Int->Int->Int):Int->Int->Int:=ds.foldl (fun B x=>mg x B) B
def CI:List Deed->(Int->Int->Int)->List Int
 | [],_=>[]
 |x::r,B=>(if B x.right x.since=0 then [x.no]else [])++CI r (mg x B)
structure MapOk (d:District)(m:BM):Prop where
 nodup:(fU m).Nodup
 good:∀ r,∃ L,L<=1073741824/\Good d.farms.length L (bk m r)
theorem MapOk.le {d:District}{m:BM}(h:MapOk d m)(r f:Int):0<=bk m r f/\bk m r f<=1073741824:=by
 obtain⟨L,h1,h2⟩:=h.good r;have:=h2.nn f;by_cases e:bk m r f=0
 ·omega
 ·obtain⟨a,b⟩:=h2.sup f e;have:=xg h2.nn _ f a b;have:=h2.tot;omega
theorem HP {d:District}{ds:List Deed}{x:Deed}(hx:Fit d x)(hk:x.kind≠4){e:List Int}{m:BM}(hm:MapOk d m)(he:(e.length+1)*8<=fY):
  cN ds x (e,m)/\∃ m',bK ds x (e,m)=.inr (e++(if bk m x.right x.since=0 then [x.no]else []),m')/\MapOk d m'/\bk m'=mg x (bk m):=by
 obtain⟨r0,r1,r2,s0,s1⟩:=hx.held hk;have hv:=hm.le x.right x.since;have ebk:dG .registerTitle .int m (RT x.right x.since)=bk m x.right x.since:=rfl;have hdel:=q_ (RT x.right x.since) m hm.nodup;have hstep:∀ m':BM,(fU m').Nodup->bk m'=mg x (bk m)->MapOk d m':=fun m' hN hb=>by
  refine⟨hN,fun r=>?_⟩;obtain⟨L,h1,h2⟩:=hm.good r;refine⟨L,h1,?_⟩;rw[hb];show Good _ _ (if r=x.right then xh x (bk m r)else bk m r);split
  ·exact(E_ hx hk h2).1
  ·exact h2
 have hlen:(e++[x.no]).length=e.length+1:=by simp
 unfold cN bK;simp only[ebk,hlen];by_cases hn:bk m x.right x.since=0
 ·have b0:(bk m x.right x.since==0)=true:=by simp[hn]
  rw[b0,if_pos hn];refine⟨⟨fun _=>he,(fun h=>by cases h)⟩,m,rfl,hm,?_⟩;funext r
  unfold mg;split
  ·rename_i h;subst h;unfold xh;rw[if_pos hn]
  ·rfl
 ·have b0:(bk m x.right x.since==0)=false:=by simpa using hn
  rw[b0,if_neg hn,List.append_nil];simp only[cond_false];have edel:=KL m hm.nodup x.right x.since;have kdel:(fU (kJ .registerTitle .int m (RT x.right x.since))).Nodup:=hdel.1;have egood:Good d.farms.length (1073741824 - bk m x.right x.since) (bk (kJ .registerTitle .int m (RT x.right x.since)) x.right):=by
   obtain⟨L,h1,h2⟩:=hm.good x.right;rw[edel];simp only[if_true];exact h2.put s0 s1 (Int.le_refl _) (by have:=h2.tot;omega)
  by_cases k1:x.kind=1
  ·have b1:(x.kind==1)=true:=by simp[k1]
   rw[b1];simp only[cond_true];obtain⟨a,b,c⟩:=hx.pass k1;have hto:=egood.le30 (by omega) x.to;have e2:dG .registerTitle .int (kJ .registerTitle .int m (RT x.right x.since)) (RT x.right x.to)=gM (bk m x.right) x.since 0 x.to:=by
    have:=congrFun (congrFun edel x.right) x.to;simpa[bk]using this
   have hto':0<=gM (bk m x.right) x.since 0 x.to/\gM (bk m x.right) x.since 0 x.to<=2147483648:=by
    rw[edel]at hto;simpa using hto
   refine⟨⟨(fun h=>by cases h),(fun _ h=>by cases h)⟩,_,rfl,?_⟩;have hb:bk (cL x (bk m x.right x.since) (kJ .registerTitle .int m (RT x.right x.since)))=mg x (bk m):=by
    unfold cL;rw[e2,bB (by omega) (by omega),xi,edel];funext r
    unfold mg;by_cases h:r=x.right
    ·subst h;simp only[if_true];unfold xh;rw[if_neg hn,if_pos k1]
    ·simp only[if_neg h]
   exact⟨hstep _ (by unfold cL;exact(mc _ _ _ kdel).1) hb,hb⟩
  ·have b1:(x.kind==1)=false:=by simpa using k1
   rw[b1];simp only[cond_false];by_cases k2:x.kind=2
   ·have b2:(x.kind==2)=true:=by simp[k2]
    rw[b2];simp only[cond_true];obtain⟨p1,p2,p3⟩:=CH (hx.split k2) hv.1 hv.2 kdel (M:=1073741824 - bk m x.right x.since) (by omega) egood;refine⟨⟨(fun h=>by cases h),fun _ _=>⟨fun _=>p1,(fun h=>by cases h)⟩⟩,_,rfl,?_⟩;have hb:bk (b6 x (bk m x.right x.since) (kJ .registerTitle .int m (RT x.right x.since)))=mg x (bk m):=by
     rw[p3,edel];funext r
     unfold mg;by_cases h:r=x.right
     ·subst h;simp only[if_true];unfold xh;rw[if_neg hn,if_neg k1,if_pos k2]
     ·simp only[if_neg h]
    exact⟨hstep _ p2 hb,hb⟩
   ·have b2:(x.kind==2)=false:=by simpa using k2
    rw[b2];simp only[cond_false];have k3:x.kind=3:=by rcases hx.kind with h|h|h|h <;>omega
    have b3:(x.kind==3)=true:=by simp[k3]
    rw[b3];simp only[cond_true];refine⟨⟨(fun h=>by cases h),fun _ _=>⟨(fun h=>by cases h),(fun _ h=>by cases h)⟩⟩,_,rfl,?_⟩;have hb:bk (kJ .registerTitle .int m (RT x.right x.since))=mg x (bk m):=by
     rw[edel];funext r
     unfold mg;by_cases h:r=x.right
     ·subst h;simp only[if_true];unfold xh;rw[if_neg hn,if_neg k1,if_neg k2]
     ·simp only[if_neg h]
    exact⟨hstep _ kdel hb,hb⟩
theorem vN {d:District}(ds:List Deed):∀ (l:List Deed),(∀ x∈l,Fit d x/\x.kind≠4)->∀ (e:List Int) (m:BM),MapOk d m->(e.length+l.length)*8<=fY->
  okL (bK ds) (cN ds) l (e,m)/\∃ m',fg (bK ds) l (e,m)=.inr (e++CI l (bk m),m')/\MapOk d m'/\bk m'=Fa l (bk m)
 | [],_,e,m,hm,_=>⟨trivial,m,by simp[fg,CI],hm,rfl⟩
 |x::l,h,e,m,hm,hB=>by
  simp only[List.length_cons]at hB;obtain⟨h1,h2⟩:=h x List.mem_cons_self;obtain⟨q1,m1,q2,q3,q4⟩:=HP (ds:=ds) h1 h2 (e:=e) hm (by omega);have hlen:(e++(if bk m x.right x.since=0 then [x.no]else [])).length<=e.length+1:=by split <;>simp
  obtain⟨r1,m2,r2,r3,r4⟩:=vN ds l (fun y hy=>h y (List.mem_cons_of_mem _ hy)) (e++(if bk m x.right x.since=0 then [x.no]else [])) m1 q3 (by omega);refine⟨⟨q1,fun s hs=>by rw[q2]at hs;cases hs;exact r1⟩,m2,?_,r3,?_⟩
  ·simp only[fg,q2];rw[r2,q4,List.append_assoc];rfl
  ·rw[r4,q4];rfl
def B0 (d:District):Int->Int->Int:=fun r f=>if 0<=r/\r< (d.rights.length:Int)/\(d.rights.getD r.toNat default).kind=1/\(d.rights.getD r.toNat default).farm=f then(d.rights.getD r.toNat default).litres else 0
structure TakeOk (d:District)(x:Right):Prop where
 f0:0<=x.farm
 f1:x.farm< (d.farms.length:Int)
 l0:1<=x.litres
 l1:x.litres<=1073741824
theorem HQ {d:District}(h:bY d=0){k:Nat}(hk:k<d.rights.length)(ht:(d.rights.getD k default).kind=1):TakeOk d (d.rights.getD k default):=by
 have:=((yC d).1 h).2.2.2.2.2.2.2.1 k hk;unfold d4 at this;rw[kX]at this;have h2:gJ d (d.rights.getD k default)=true:=by
  cases h3:gJ d (d.rights.getD k default)with
  |true=>rfl
  |false=>rw[h3]at this;cases this
 unfold gJ at h2;cases h4:((!(cw (d.rights.getD k default).farm (d.farms.length:Int))) ||(!(cw (d.rights.getD k default).reach (d.reaches.length:Int)))) ||(!(aw ([0,(d.rights.getD k default).since,(d.rights.getD k default).to,(i64.wrap (d.hours - 1))])))with
 |true=>rw[h4]at h2;cases h2
 |false=>
  rw[h4,show((d.rights.getD k default).kind==1)=true by rw[ht];rfl]at h2;simp only[cond_true,cond_false,Bool.and_eq_true]at h2;simp only[Bool.or_eq_false_iff,Bool.not_eq_false']at h4;have h5:=h4.1.1;unfold cw at h5;simp only[Bool.and_eq_true,decide_eq_true_eq]at h5;have h6:=wZ h2.1.2;exact⟨by omega,by omega,by omega,by omega⟩
theorem KM {d:District}(h:bY d=0)(r:Int):∃ L,L<=1073741824/\Good d.farms.length L (B0 d r):=by
 by_cases hr:0<=r/\r< (d.rights.length:Int)/\(d.rights.getD r.toNat default).kind=1
 ·have ht:=HQ h (k:=r.toNat) (by omega) hr.2.2;have hl:=ht.l0;refine⟨(d.rights.getD r.toNat default).litres,ht.l1,?_⟩;have e:B0 d r=gM (fun _=>0) (d.rights.getD r.toNat default).farm (d.rights.getD r.toNat default).litres:=by
   funext f
   unfold B0 gM;by_cases hf:f=(d.rights.getD r.toNat default).farm
   ·rw[if_pos ⟨hr.1,hr.2.1,hr.2.2,hf.symm⟩,if_pos hf]
   ·rw[if_neg (fun h=>hf h.2.2.2.symm),if_neg hf]
  have t0:∀ n,tot n (fun _=>0)=0:=fun n=>by
   induction n with
   |zero=>rfl
   |succ n ih=>unfold tot;rw[ih];rfl
  rw[e];exact Good.put (L:=0) ⟨fun _=>Int.le_refl _,fun f hf=>absurd rfl hf,by rw[t0];exact Int.le_refl _⟩ ht.f0 ht.f1 (by omega) (by rw[t0];omega)
 ·refine⟨0,by omega,?_⟩;have e:B0 d r=fun _=>0:=by
   funext f
   unfold B0;rw[if_neg (fun h=>hr ⟨h.1,h.2.1,h.2.2.1⟩)]
  have t0:∀ n,tot n (fun _=>0)=0:=fun n=>by
   induction n with
   |zero=>rfl
   |succ n ih=>unfold tot;rw[ih];rfl
  rw[e];exact⟨fun _=>Int.le_refl _,fun f hf=>absurd rfl hf,by rw[t0];exact Int.le_refl _⟩
theorem Fb {d:District}(h:bY d=0):∃ m,aq (bJ d) d.rights.length 0 []=.inr m/\MapOk d m/\bk m=B0 d:=by
 obtain⟨m,h1,h2,h3⟩:=qa (step:=bJ d) (fun k (m:BM) =>(fU m).Nodup/\bk m=fun r f=>if r< (k:Int)then B0 d r f else 0) d.rights.length 0 ([]:BM) ⟨by simp[fU],by
   funext r f
   by_cases hr:r< ((0:Nat):Int)
   ·rw[if_pos hr];unfold B0 bk;rw[if_neg (by omega)];rfl
   ·rw[if_neg hr];rfl⟩ (fun j m _ hj ⟨j1,j2⟩ =>by
  rw[Nat.zero_add]at hj;unfold bJ;by_cases hk:(d.rights.getD j default).kind=1
  ·rw[show((d.rights.getD j default).kind==1)=true by rw[hk];rfl];refine⟨_,rfl,(mc _ _ _ j1).1,?_⟩;rw[xi,j2];funext r f
   by_cases hr:r=(j:Int)
   ·subst hr;simp only[if_true];unfold gM B0;dsimp only;rw[if_pos (by omega:(j:Int) < ((j+1:Nat):Int)),Int.toNat_natCast];by_cases hf:f=(d.rights.getD j default).farm
    ·rw[if_pos hf,if_pos ⟨by omega,by omega,hk,hf.symm⟩]
    ·rw[if_neg hf,if_neg (by omega),if_neg (fun h=>hf h.2.2.2.symm)]
   ·simp only[if_neg hr];by_cases h2:r< (j:Int)
    ·rw[if_pos h2,if_pos (by omega)]
    ·rw[if_neg h2,if_neg (by omega)]
  ·rw[show((d.rights.getD j default).kind==1)=false by simpa using hk];refine⟨_,rfl,j1,?_⟩;rw[j2];funext r f
   by_cases hr:r=(j:Int)
   ·subst hr;rw[if_neg (by omega),if_pos (by omega)];unfold B0;rw[if_neg (fun h=>hk (by rw[Int.toNat_natCast]at h;exact h.2.2.1))]
   ·by_cases h2:r< (j:Int)
    ·rw[if_pos h2,if_pos (by omega)]
    ·rw[if_neg h2,if_neg (by omega)])
 have e:bk m=B0 d:=by
  rw[h3];funext r f
  split
  ·rfl
  ·unfold B0;rw[if_neg (by omega)]
 refine⟨m,h1,⟨h2,fun r=>?_⟩,e⟩;rw[e];exact KM h r
theorem vO {d:District}(h:bY d=0){ds:List Deed}(hd:∀ x∈ds,Fit d x/\x.kind≠4)(hl:ds.length<=512):
  eY d ds/\∃ m,cC d ds=(m,qg (CI ds (B0 d)))/\MapOk d m/\bk m=Fa ds (B0 d):=by
 obtain⟨m0,e0,o0,b0⟩:=Fb h;obtain⟨q1,m1,q2,q3,q4⟩:=vN (d:=d) ds ds hd [] m0 o0 (by simp only[List.length_nil];unfold fY;omega);rw[List.nil_append]at q2;rw[b0]at q2 q4;refine⟨fun _ z hz=>?_,m1,?_,q3,q4⟩
 ·rw[e0]at hz;cases hz;refine⟨E5 ds,?_⟩;rw[n9];exact q1
 ·unfold cC;rw[e0,n9];simp only[q2]
end Go.Sx
end
section
namespace Go.Proofs
open Go.Shelf
def Tryz.sortLh_ren:Go.Shelf.Ren:=⟨fun|6=>50|15=>81|14=>80|28=>112|29=>113|20=>104|21=>105|22=>106|23=>107|24=>108|25=>109|26=>110|27=>111|46=>136|47=>137|48=>138|49=>139|50=>140|57=>149|n=>n,fun|22=>44|24=>67|25=>100|3=>3|39=>116|0=>0|53=>162|55=>164|4=>4|46=>156|45=>155|50=>78|5=>5|9=>9|66=>184|70=>187|76=>195|77=>192|n=>n,fun|n=>n⟩
theorem Tryz.sortLh:Go.Proofs.SlLaysF0.n6 Tryz.prog Tryz.sortLh_ren:= {
 mixed:=by kernel_rfl
 f6:=⟨Tryz.f50.name,by decide,Tryz.func50.trans (congrArg some (by kernel_rfl))⟩
 f14:=⟨Tryz.f80.name,by decide,Tryz.func80.trans (congrArg some (by kernel_rfl))⟩
 f15:=Tryz.func81.trans (congrArg some (by kernel_rfl))
 f20:=⟨Tryz.f104.name,by decide,Tryz.func104.trans (congrArg some (by kernel_rfl))⟩
 f21:=⟨Tryz.f105.name,by decide,Tryz.func105.trans (congrArg some (by kernel_rfl))⟩
 f22:=⟨Tryz.f106.name,by decide,Tryz.func106.trans (congrArg some (by kernel_rfl))⟩
 f23:=⟨Tryz.f107.name,by decide,Tryz.func107.trans (congrArg some (by kernel_rfl))⟩
 f24:=⟨Tryz.f108.name,by decide,Tryz.func108.trans (congrArg some (by kernel_rfl))⟩
 f25:=⟨Tryz.f109.name,by decide,Tryz.func109.trans (congrArg some (by kernel_rfl))⟩
 f26:=⟨Tryz.f110.name,by decide,Tryz.func110.trans (congrArg some (by kernel_rfl))⟩
 f27:=⟨Tryz.f111.name,by decide,Tryz.func111.trans (congrArg some (by kernel_rfl))⟩
 f28:=Tryz.func112.trans (congrArg some (by kernel_rfl))
 f29:=Tryz.func113.trans (congrArg some (by kernel_rfl))
 f46:=⟨Tryz.f136.name,by decide,Tryz.func136.trans (congrArg some (by kernel_rfl))⟩
 f47:=Tryz.func137.trans (congrArg some (by kernel_rfl))
 f48:=Tryz.func138.trans (congrArg some (by kernel_rfl))
 f49:=⟨Tryz.f139.name,by decide,Tryz.func139.trans (congrArg some (by kernel_rfl))⟩
 f50:=⟨Tryz.f140.name,by decide,Tryz.func140.trans (congrArg some (by kernel_rfl))⟩
 f57:=⟨Tryz.f149.name,by decide,Tryz.func149.trans (congrArg some (by kernel_rfl))⟩
 t0:=Tryz.underlying0
 a0:=Tryz.isAgg0
 z0:=Tryz.sizeOf0
 v0:=Tryz.zeroValue0
 t3:=Tryz.underlying3
 a3:=Tryz.isAgg3
 z3:=Tryz.sizeOf3
 v3:=Tryz.zeroValue3
 t4:=Tryz.underlying4
 a4:=Tryz.isAgg4
 z4:=Tryz.sizeOf4
 v4:=Tryz.zeroValue4
 t5:=Tryz.underlying5
 a5:=Tryz.isAgg5
 z5:=Tryz.sizeOf5
 v5:=Tryz.zeroValue5
 t9:=Tryz.underlying9
 a9:=Tryz.isAgg9
 z9:=Tryz.sizeOf9
 v9:=Tryz.zeroValue9
 t22:=Tryz.underlying44
 a22:=Tryz.isAgg44
 z22:=Tryz.sizeOf44
 v22:=Tryz.zeroValue44
 t25:=Tryz.underlying100
 a25:=Tryz.isAgg100
 z25:=Tryz.sizeOf100
 v25:=Tryz.zeroValue100
 t39:=Tryz.underlying116
 a39:=Tryz.isAgg116
 z39:=Tryz.sizeOf116
 v39:=Tryz.zeroValue116
 t45:=Tryz.underlying155
 a45:=Tryz.isAgg155
 z45:=Tryz.sizeOf155
 v45:=Tryz.zeroValue155
 t46:=Tryz.underlying156
 a46:=Tryz.isAgg156
 z46:=Tryz.sizeOf156
 v46:=Tryz.zeroValue156
 t50:=Tryz.underlying78
 a50:=Tryz.isAgg78
 z50:=Tryz.sizeOf78
 v50:=Tryz.zeroValue78
 t53:=Tryz.underlying162
 a53:=Tryz.isAgg162
 z53:=Tryz.sizeOf162
 v53:=Tryz.zeroValue162
 t55:=Tryz.underlying164
 a55:=Tryz.isAgg164
 z55:=Tryz.sizeOf164
 v55:=Tryz.zeroValue164
 t66:=Tryz.underlying184
 a66:=Tryz.isAgg184
 z66:=Tryz.sizeOf184
 v66:=Tryz.zeroValue184
 t70:=Tryz.underlying187
 a70:=Tryz.isAgg187
 z70:=Tryz.sizeOf187
 v70:=Tryz.zeroValue187
 t76:=Tryz.underlying195
 a76:=Tryz.isAgg195
 z76:=Tryz.sizeOf195
 v76:=Tryz.zeroValue195
 t77:=Tryz.underlying192
 a77:=Tryz.isAgg192
 z77:=Tryz.sizeOf192
 v77:=Tryz.zeroValue192}
end Go.Proofs
end
section
namespace Go.Sx
open Go.Lib Go.Proofs Go.RowKit Go.Shelf Go.Sort
noncomputable def nK:List SV->List Ob->Option HCon:=kY .holding 51 [] bI
@[go_sem] theorem Fc {l0:List Holding}:nK [.os 0,.fn 51 [] []] [.row .holding l0]=some (dK (apart bI l0) (.tup []) [.row .holding (srt bI l0)]):=uC
theorem uD:ub .holding:=fun x s hs=>by
 simp only[cellsOf,List.mem_cons,List.not_mem_nil,or_false]at hs;rcases hs with rfl|rfl|rfl|rfl;all_goals exact⟨_,rfl,rfl⟩
theorem rK (x y:Holding):mP (.agg (cellsOf .holding x):: .agg (cellsOf .holding y)::[])=some (.det True (.v (.int .i64 (bI x y)))):=by
 simp only[go_sem,Nat.reduceBEq]
theorem xj:FnOkO Tryz.prog 50 nK:=
 yS (k:=.holding) Tryz.sortLh (fun w=>by kernel_rfl) (fun w=>by kernel_rfl) uD (by decide) (g:=51) (caps:=[]) qS (cf:=bI) rK rE (fun s hs=>by cases hs) ⟨default,default,rK _ _⟩
end Go.Sx
end
section
namespace Go.Sx
open Go.Proofs
open IntKind (i64)
theorem clQ {p:Prop}(h:p:=by((repeat' (first|with_reducible refine And.intro ?_ ?_|with_reducible intro _)) <;>(first|done|with_reducible exact Empty.elim ‹Empty› |with_reducible assumption|rfl|((try simp only[wW,EC]at *);first|with_reducible assumption|(simp_all only[d7,eJ];done) |grind|(simp_all only[d7,eJ];grind))))):p:=h
@[go_sem] def cP (a0:District)(a1:List Deed)(a2:Int)(a3:Int)(k_0:RegisterTitle×Int)(s_0:List Holding):Empty⊕(List Holding):=(bif(decide (k_0.2 > 0))then .inr (s_0++([({ right:=k_0.1.right,farm:=k_0.1.farm,litres:=k_0.2,rank:=(a0.rights.getD (Int.toNat k_0.1.right) default).rank}:Holding)]))else .inr s_0)
def gN (a0:District)(a1:List Deed)(a2:Int)(a3:Int)(k_0:RegisterTitle×Int)(s_0:List Holding):Prop:=((decide (k_0.2 > 0))=true->((0<=k_0.1.right/\k_0.1.right< (a0.rights.length:Int))/\((s_0++([({ right:=k_0.1.right,farm:=k_0.1.farm,litres:=k_0.2,rank:=(a0.rights.getD (Int.toNat k_0.1.right) default).rank}:Holding)])).length*32<=fY)))
def cS (a0:District)(a1:List Deed)(a2:Int)(a3:Int):List Holding×Int:=letI q0:=ah a0 a1;(bif(q0 !=0)then([],q0)else(bif((!(aJ a2 0 (i64.wrap (a0.hours - 1)))) ||(!(aJ a3 0 1048576)))then([],1)else(match fg (cP a0 a1 a2 a3) ((cC a0 (ce a1 a2 a3)).1) ([])with| .inl x=>x.elim| .inr s_0=>((srt bI s_0),0))))
def fa (a0:District)(a1:List Deed)(a2:Int)(a3:Int):Prop:=letI q0:= !(aJ a2 0 (i64.wrap (a0.hours - 1)));letI q1:=cS a0 a1 a2 a3;letI q2:=ah a0 a1;letI q3:= !(aJ a3 0 1048576);letI q4:=ce a1 a2 a3;letI q5:=cP a0 a1 a2 a3;((cX a0 a1)/\(((q2 !=0)=true->(([],q2)=q1))/\((q2 !=0)=false->(((q0||q3)=true->(([],1)=q1))/\((q0||q3)=false->((dB a1 a2 a3)/\((eY a0 q4)/\(∀ L_0,L_0.Perm ((cC a0 q4).1)->(okL q5 (gN a0 a1 a2 a3) L_0 ([])/\(∀ s_0,fg q5 L_0 ([])=.inr s_0->((apart bI s_0)/\(((srt bI s_0),0)=q1))))))))))))
@[go_sem] def oG:List SV->Option Con:=(pD .district fun a0=>(pR .deed fun a1=>(pI fun a2=>(pI fun a3=>(pE (.det (fa a0 a1 a2 a3) (.tup [.nw .holding ((cS a0 a1 a2 a3).1),.v (.int .i64 ((cS a0 a1 a2 a3).2))])))))))
theorem zq62 {l0 l1:List Nat}(a0:JL l0)(a1:JL l1){p:Prop}(h:JL l0->JL l1->p:=by intro ja jb;simp only[go_sem,Nat.reduceBEq,Nat.reduceLeDiff,Nat.reduceLT,decide_true,Nat.reduceAdd,Nat.reduceSub,Nat.reduceMul,Int.reduceLE,Int.reduceLT,Int.reduceToNat,Int.reduceNeg,reduceCtorEq,List.not_mem_nil];all_goals exact jT ja jb):p:=h a0 a1
theorem zq63 {p:Prop}(h:p:=by simp only[go_sem,Nat.reduceBEq,Nat.reduceLeDiff,Nat.reduceLT,decide_true,Nat.reduceAdd,Nat.reduceSub,Nat.reduceMul,Int.reduceLE,Int.reduceLT,Int.reduceToNat,Int.reduceNeg,reduceCtorEq];all_goals exact clQ):p:=h
theorem uf:FnOk Tryz.prog 18 oG:=by
 have hG:ConsOk Tryz.prog (mkG [(15,fun l=>ei (dJ [.st .district,.sl .deed] l)),(47,ib),(48,fun l=>i_ (dJ [.st .district,.o] l)),(49,fun l=>gZ (dJ [.sl .deed,.o,.o] l))] [(50,nK)]):=aV (cgc (eX.norm [.st .district,.sl .deed]) (cgc iU (cgc (kZ.norm [.st .district,.o]) (cgc (jV.norm [.sl .deed,.o,.o]) cg0)))) (cgc xj cg0);refine qW [(.tmp 8,.holding)] mixed aC hG (fn:=Tryz.f18) (c:=ag Tryz.f18) kr kr kr kr (cq fun a0=>(gn fun a1=>(d_ fun a2=>(d_ fun a3=>(bw (fun hp=>?_))))));dsimp only[bb]at hp;unfold fa at hp;refine⟨nbl rfl,(fun id st=>bif Nat.beq id 0 then some (LCP (τ:=RegisterTitle×Int) (ρ:=Empty) (σ:=(List Holding)) 4 [.slot 8 (.row .holding ([]))] [0,1,2,3,4] (fun left_0 cur_0 s_0=>⟨[(4,.ptr 0 0),(8,.os 4),(41,.ptr 3 0)],[.cells (cellsOf .district a0),.mp .registerTitle .int ((cC a0 (ce a1 a2 a3)).1) (some (3,none)),.dead,.mi (some 1) (((cC a0 (ce a1 a2 a3)).1).length) left_0 cur_0,.row .holding s_0]⟩) (cP a0 a1 a2 a3) (gN a0 a1 a2 a3) ((cC a0 (ce a1 a2 a3)).1) ([]) ((·.elim)) ((·.elim)) (fun s_0=>⟨[(8,.os 4)],[.dead,.dead,.dead,.dead,.row .holding s_0]⟩) st)else none),?_,?_⟩
 ·unfold ag Tryz.f18;simp only[ap,true_and,and_true]
  ·refine EB (di .registerTitle,di .int) 3 mixed aC hG kr (fun _=>rfl) fun left_0 cur_0 s_0 hp0=>⟨L0,ak _,?_⟩
   ·by_cases hl0:left_0=[]
    ·subst hl0;exact zq62 (jl [0,1,2,3,7]) (jl [0,1,2,3,4])
    ·simp only[go_sem,Nat.reduceBEq,Nat.reduceLeDiff,Nat.reduceLT,decide_true,Nat.reduceAdd,Nat.reduceSub,Nat.reduceMul,Int.reduceLE,Int.reduceLT,Int.reduceToNat,Int.reduceNeg,reduceCtorEq,hl0];intro j hj0;obtain⟨hlt0,hq0⟩:=hp0 j hj0;unfold gN at hq0;all_goals exact jT (jl [0,1,2,3,7]) (jl [0,1,2,3,4])
 ·unfold ag Tryz.f18;exact zq63
def eA (d:District)(l_:List Deed)(known:Int):List Int×Int:=(bif((ah d l_) !=0)then([],(ah d l_))else(bif(!(aJ known 0 1048576))then([],1)else((cC d (ce l_ 4096 known)).2,0)))
def gO (d:District)(l_:List Deed)(known:Int):Prop:=((cX d l_)/\(((ah d l_) !=0)=false->((!(aJ known 0 1048576))=false->((dB l_ 4096 known)/\(eY d (ce l_ 4096 known))))))
@[go_sem] def mh:List SV->Option Con:=(pD .district fun d=>(pR .deed fun l_=>(pI fun known=>(pE (.det (gO d l_ known) (.tup [.nw .int ((eA d l_ known).1),.v (.int .i64 ((eA d l_ known).2))]))))))
theorem qi:FnOk Tryz.prog 20 mh:=by
 have hG:ConsOk Tryz.prog (mkG [(15,fun l=>ei (dJ [.st .district,.sl .deed] l)),(47,ib),(48,fun l=>i_ (dJ [.st .district,.o] l)),(49,fun l=>gZ (dJ [.sl .deed,.o,.o] l))] []):=aV (cgc (eX.norm [.st .district,.sl .deed]) (cgc iU (cgc (kZ.norm [.st .district,.o]) (cgc (jV.norm [.sl .deed,.o,.o]) cg0)))) cg0;refine qW [(.tmp 6,.int)] mixed aC hG (fn:=Tryz.f20) (c:=ag Tryz.f20) kr kr kr kr (cq fun d=>(gn fun l_=>(d_ fun known=>(bw (fun hp=>?_)))));dsimp only[bb]at hp;unfold gO at hp;refine⟨nbl rfl,L0,ak _,?_⟩
 ·unfold ag Tryz.f20;try unfold eA
  exact zq1
def rL (d:District)(l:List Deed)(hour known:Int):Int->Int->Int:=Fa (stS (rX l hour known)) (B0 d)
def Fd (d:District)(B:Int->Int->Int)(r f:Nat):Option Holding:=if 0<B r f then some { right:=(r:Int),farm:=(f:Int),litres:=B r f,rank:=(d.rights.getD r default).rank}else none
def mj (d:District)(B:Int->Int->Int)(r:Nat):List Holding:=(List.range d.farms.length).filterMap (Fd d B r)
def k9 (d:District)(B:Int->Int->Int):List Holding:=(List.range d.rights.length).flatMap (mj d B)
theorem kC {d:District}{B:Int->Int->Int}{r:Nat}{x:Holding}:x∈mj d B r↔∃ f:Nat,f<d.farms.length/\0<B r f/\x= { right:=(r:Int),farm:=(f:Int),litres:=B r f,rank:=(d.rights.getD r default).rank}:=by
 unfold mj Fd;rw[List.mem_filterMap];constructor
 ·rintro⟨f,hf,h⟩;rw[List.mem_range]at hf;split at h
  ·rename_i h0;exact⟨f,hf,h0,(Option.some.inj h).symm⟩
  ·cases h
 ·rintro⟨f,hf,h0,rfl⟩;exact⟨f,List.mem_range.2 hf,by rw[if_pos h0]⟩
theorem ra {d:District}{B:Int->Int->Int}{x:Holding}:x∈k9 d B↔0<=x.right/\x.right< (d.rights.length:Int)/\0<=x.farm/\x.farm< (d.farms.length:Int)/\0<x.litres/\x.litres=B x.right x.farm/\x.rank=(d.rights.getD x.right.toNat default).rank:=by
 unfold k9;rw[List.mem_flatMap];constructor
 ·rintro⟨r,hr,hx⟩;rw[List.mem_range]at hr;obtain⟨f,hf,h0,rfl⟩:=kC.1 hx;exact⟨by simp only;omega,by simp only;omega,by simp only;omega,by simp only;omega,h0,rfl,by simp only[Int.toNat_natCast]⟩
 ·rintro⟨a,b,c,e,h0,h1,h2⟩;refine⟨x.right.toNat,List.mem_range.2 (by omega),kC.2 ⟨x.farm.toNat,by omega,?_,?_⟩⟩
  ·rw[Int.toNat_of_nonneg a,Int.toNat_of_nonneg c];omega
  ·rw[Int.toNat_of_nonneg a,Int.toNat_of_nonneg c,<-h1,<-h2]
theorem yU:∀ n:Nat,(List.range n).Pairwise (· < ·):=fun n=>List.pairwise_lt_range
theorem qj (d:District)(B:Int->Int->Int):(k9 d B).Pairwise hlt:=by
 unfold k9;rw[List.pairwise_flatMap];refine⟨fun r _=>?_,?_⟩
 ·unfold mj;rw[List.pairwise_filterMap];refine(yU _).imp fun {a b} hab x hx y hy=>?_;unfold Fd at hx hy;split at hx
  ·split at hy
   ·cases hx;cases hy;exact Or.inr ⟨rfl,Or.inl (by show(a:Int) < (b:Int);omega)⟩
   ·cases hy
  ·cases hx
 ·refine(yU _).imp fun {a b} hab x hx y hy=>?_;obtain⟨f,_,_,rfl⟩:=kC.1 hx;obtain⟨g,_,_,rfl⟩:=kC.1 hy;simp only[hlt,qT,and_false,or_false];omega
theorem HR (x:Holding):¬hlt x x:=by simp only[hlt,qT,and_false,or_false];omega
theorem CJ {l:List Holding}(h:l.Pairwise hlt):l.Nodup:=h.imp fun {a b} hab e=>by subst e;exact HR _ hab
theorem yV {α β:Type}(f:α->List β)(k:Nat):∀ l:List α,(∀ a∈l,(f a).length<=k)->(l.flatMap f).length<=l.length*k
 | [],_=>by simp
 |a::l,h=>by
  have h1:=h a List.mem_cons_self;have h2:=yV f k l fun b hb=>h b (List.mem_cons_of_mem _ hb);rw[List.flatMap_cons,List.length_append,List.length_cons,Nat.add_mul,Nat.one_mul];omega
theorem CK {d:District}(hr:Right1 d)(B:Int->Int->Int):(k9 d B).length<=153600:=by
 have h1:=yV (mj d B) 600 (List.range d.rights.length) fun r _=>Nat.le_trans (List.length_filterMap_le _ _) (by rw[List.length_range];exact hr.farms);rw[List.length_range]at h1;have:=hr.rights;show((List.range d.rights.length).flatMap (mj d B)).length<=_;have:d.rights.length*600<=256*600:=Nat.mul_le_mul_right _ this;omega
def k_ (d:District)(k:RegisterTitle×Int):Option Holding:=if 0<k.2 then some { right:=k.1.right,farm:=k.1.farm,litres:=k.2,rank:=(d.rights.getD (Int.toNat k.1.right) default).rank}else none
theorem xk (d:District)(l:List Deed)(h n:Int):∀ (L:BM) (s:List Holding),fg (cP d l h n) L s=.inr (s++L.filterMap (k_ d))
 | [],s=>by simp[fg]
 |k::L,s=>by
  by_cases hk:0<k.2
  ·have e:k_ d k=some { right:=k.1.right,farm:=k.1.farm,litres:=k.2,rank:=(d.rights.getD (Int.toNat k.1.right) (default:Right)).rank}:=by unfold k_;rw[if_pos hk]
   rw[List.filterMap_cons_some e];simp only[fg];unfold cP;rw[decide_eq_true (show k.2 > 0 from hk)];simp only[cond_true];have:=xk d l h n L (s++[{ right:=k.1.right,farm:=k.1.farm,litres:=k.2,rank:=(d.rights.getD (Int.toNat k.1.right) (default:Right)).rank}]);unfold cP at this;rw[this,List.append_assoc];rfl
  ·have e:k_ d k=none:=by unfold k_;rw[if_neg hk]
   rw[List.filterMap_cons_none e];simp only[fg];unfold cP;rw[decide_eq_false (show ¬k.2 > 0 from hk)];simp only[cond_false];have:=xk d l h n L s;unfold cP at this;exact this
theorem Av (d:District)(l:List Deed)(h n:Int):∀ (L:BM) (s:List Holding),(∀ k∈L,0<k.2->0<=k.1.right/\k.1.right< (d.rights.length:Int))->(s.length+(L.filterMap (k_ d)).length)*32<=fY->okL (cP d l h n) (gN d l h n) L s
 | [],_,_,_=>trivial
 |k::L,s,hk,hB=>by
  by_cases h0:0<k.2
  ·have e:k_ d k=some { right:=k.1.right,farm:=k.1.farm,litres:=k.2,rank:=(d.rights.getD (Int.toNat k.1.right) (default:Right)).rank}:=by unfold k_;rw[if_pos h0]
   rw[List.filterMap_cons_some e,List.length_cons]at hB;refine⟨fun _=>⟨hk k List.mem_cons_self h0,by rw[List.length_append];simp only[List.length_cons,List.length_nil];omega⟩,fun s' hs=>?_⟩;unfold cP at hs;rw[decide_eq_true (show k.2 > 0 from h0)]at hs;cases hs;exact Av d l h n L _ (fun q hq=>hk q (List.mem_cons_of_mem _ hq)) (by rw[List.length_append];simp only[List.length_cons,List.length_nil];omega)
  ·have e:k_ d k=none:=by unfold k_;rw[if_neg h0]
   rw[List.filterMap_cons_none e]at hB;refine⟨fun h=>absurd (of_decide_eq_true h) h0,fun s' hs=>?_⟩;unfold cP at hs;rw[decide_eq_false (show ¬k.2 > 0 from h0)]at hs;cases hs;exact Av d l h n L _ (fun q hq=>hk q (List.mem_cons_of_mem _ hq)) hB
theorem BB {d:District}{r:Int}(hr:¬ (0<=r/\r< (d.rights.length:Int))):∀ (ds:List Deed) (B:Int->Int->Int),(∀ x∈ds,Fit d x/\x.kind≠4)->Fa ds B r=B r
 | [],B,_=>rfl
 |x::ds,B,h=>by
  have h1:=h x List.mem_cons_self;have h2:=h1.1.held h1.2;show Fa ds (mg x B) r=_;rw[BB hr ds _ fun y hy=>h y (List.mem_cons_of_mem _ hy)];unfold mg;rw[if_neg (by omega)]
theorem ug {d:District}{l:List Deed}(h:Deeds d l)(hour known:Int):∀ x∈stS (rX l hour known),Fit d x/\x.kind≠4:=fun x hx=>by
 have hx:=HI.1 hx;unfold rX at hx;rw[List.mem_filter]at hx;refine⟨h.fit x hx.1,fun e=>?_⟩;have:=hx.2;rw[e]at this;simp at this
theorem BC (l:List Deed):(stS l).length=l.length:=(n8 (nG l)).symm
theorem HS {α:Type}{a b:List α}(ha:a.Nodup)(hb:b.Nodup)(h:∀ x,x∈a↔x∈b):a.Perm b:=(List.perm_ext_iff_of_nodup ha hb).2 h
theorem CL {d:District}{l:List Deed}(h:Deeds d l){m:BM}(hm:MapOk d m){hour known:Int}(hb:bk m=rL d l hour known):
  (m.filterMap (k_ d)).Perm (k9 d (rL d l hour known))/\∀ k∈m,0<k.2->0<=k.1.right/\k.1.right< (d.rights.length:Int):=by
 have hget:∀ (t:RegisterTitle) (v:Int),(t,v)∈m->bk m t.right t.farm=v:=fun t v htv=>by
  have:=(uc hm.nodup).2 htv;show(eI m { right:=t.right,farm:=t.farm}).getD _=v;have e:({ right:=t.right,farm:=t.farm}:RegisterTitle)=t:=rfl;rw[e,this];rfl
 have hrng:∀ k∈m,0<k.2->0<=k.1.right/\k.1.right< (d.rights.length:Int):=fun k hk h0=>by
  rcases Classical.em (0<=k.1.right/\k.1.right< (d.rights.length:Int))with hr|hr
  ·exact hr
  ·have e:=hget k.1 k.2 hk;rw[hb]at e;unfold rL at e;rw[BB hr _ _ (ug h hour known)]at e;unfold B0 at e;rw[if_neg (fun h=>hr ⟨h.1,h.2.1⟩)]at e;omega
 refine⟨HS ?_ (CJ (qj _ _)) fun x=>?_,hrng⟩
 ·rw[List.Nodup,List.pairwise_filterMap];have:m.Pairwise fun a b=>a.1≠b.1:=by
   have:=hm.nodup;unfold fU at this;rw[List.Nodup,List.pairwise_map]at this;exact this
  refine this.imp fun {a b} hab x hx y hy=>?_;unfold k_ at hx hy;split at hx
  ·split at hy
   ·cases hx;cases hy;intro e;simp only[Holding.mk.injEq]at e;refine hab ?_;obtain⟨⟨a1,a2⟩,a3⟩:=a;obtain⟨⟨b1,b2⟩,b3⟩:=b;simp only at e;simp[e.1,e.2.1]
   ·cases hy
  ·cases hx
 ·rw[List.mem_filterMap,ra];constructor
  ·rintro⟨k,hk,hx⟩;unfold k_ at hx;split at hx
   ·rename_i h0;cases hx;have e:=hget k.1 k.2 hk;obtain⟨a,b⟩:=hrng k hk h0;obtain⟨L,_,hg⟩:=hm.good k.1.right;obtain⟨c,f⟩:=hg.sup k.1.farm (by rw[e];omega);exact⟨a,b,c,f,h0,by simp only;rw[<-hb,e],rfl⟩
   ·cases hx
  ·rintro⟨a,b,c,f,h0,h1,h2⟩;rw[<-hb]at h1;have h3:eI m (RT x.right x.farm)=some x.litres:=by
    have e:bk m x.right x.farm=(eI m (RT x.right x.farm)).getD 0:=rfl;cases hg:eI m (RT x.right x.farm)with
    |none=>rw[e,hg]at h1;simp at h1;omega
    |some v=>rw[e,hg]at h1;simp at h1;rw[h1]
   refine⟨(RT x.right x.farm,x.litres),(uc hm.nodup).1 h3,?_⟩;unfold k_;rw[if_pos h0];simp only[Option.some.injEq];rw[<-h2]
open Go.Shelf Go.Sort in
theorem vP {d:District}{B:Int->Int->Int}{s:List Holding}(h:s.Perm (k9 d B)):apart bI s/\srt bI s=k9 d B:=by
 have e1:∀ x y,ltOf bI x y=true↔hlt x y:=fun x y=>by unfold ltOf;rw[decide_eq_true_eq,tV]
 have e2:∀ x y,ltOf bI x y=false↔¬hlt x y:=fun x y=>by rw[<-e1];simp
 have heq:∀ x∈k9 d B,∀ y∈k9 d B,¬hlt x y->¬hlt y x->x=y:=fun x hx y hy h1 h2=>by
  obtain⟨_,_,_,_,_,x1,x2⟩:=ra.1 hx;obtain⟨_,_,_,_,_,y1,y2⟩:=ra.1 hy;simp only[hlt,qT,and_false,or_false]at h1 h2;have q1:x.right=y.right:=by omega
  have q2:x.farm=y.farm:=by omega
  obtain⟨a,b,c,e⟩:=x;obtain⟨a',b',c',e'⟩:=y;simp only at q1 q2 x1 x2 y1 y2;subst q1;subst q2;rw[x1,x2,y1,y2]
 refine⟨fun x hx y hy h1 h2=>heq x (h.subset hx) y (h.subset hy) ((e2 x y).1 h1) ((e2 y x).1 h2),?_⟩;unfold srt;have hp:(s.mergeSort fun x y=>!(ltOf bI y x)).Perm (k9 d B):=(List.mergeSort_perm _ _).trans h;refine List.Perm.eq_of_pairwise (le:=fun x y=>(!ltOf bI y x)=true) ?_ ?_ ?_ hp
 ·intro x y hx hy h1 h2;simp only[Bool.not_eq_true']at h1 h2;exact heq x (hp.subset hx) y hy ((e2 x y).1 h2) ((e2 y x).1 h1)
 ·refine List.pairwise_mergeSort ?_ ?_ s
  ·intro a b c h1 h2;simp only[Bool.not_eq_true']at h1 h2 |-;exact rE.3 c b a h2 h1
  ·intro a b;simp only[Bool.or_eq_true,Bool.not_eq_true'];rcases Classical.em (hlt b a)with hh|hh
   ·refine .inr ((e2 _ _).2 fun h3=>?_);simp only[hlt,qT,and_false,or_false]at hh h3;omega
   ·exact .inl ((e2 _ _).2 hh)
 ·refine(qj d B).imp fun {a b} hab=>?_;simp only[Bool.not_eq_true'];refine(e2 _ _).2 fun h3=>?_;simp only[hlt,qT,and_false,or_false]at hab h3;omega
theorem vQ (d:District)(l:List Deed)(hour known:Int):fa d l hour known/\
  cS d l hour known=if ah d l≠0 then([],ah d l)else if 0<=hour/\hour<d.hours/\0<=known/\known<=1048576 then(k9 d (rL d l hour known),0)else([],1):=by
 by_cases hc:ah d l=0
 ·have hD:=mb hc;have hE:=((qZ d l).1 hc).1;have hh:=hD.right.hours;have hh1:=hD.right.hours1;have hw:((!(aJ hour 0 (i64.wrap (d.hours - 1)))) ||(!(aJ known 0 1048576)))= !decide (0<=hour/\hour<d.hours/\0<=known/\known<=1048576):=by
   rw[bB (by omega) (by omega),<-Bool.not_and];congr 1
   rw[Bool.eq_iff_iff,Bool.and_eq_true,o6,o6,decide_eq_true_eq];omega
  obtain⟨c1,c2⟩:=rJ l hour known hD.len;have hlen:(stS (rX l hour known)).length<=512:=by rw[BC];exact Nat.le_trans (List.length_filter_le _ _) hD.len
  obtain⟨f1,m,f2,f3,f4⟩:=vO hE (ug hD hour known) hlen;obtain⟨p1,p2⟩:=CL hD f3 (hour:=hour) (known:=known) f4;have key:∀ L:BM,L.Perm m->(L.filterMap (k_ d)).Perm (k9 d (rL d l hour known)):=fun L hL=>(hL.filterMap _).trans p1;have val:cS d l hour known=if 0<=hour/\hour<d.hours/\0<=known/\known<=1048576 then(k9 d (rL d l hour known),0)else([],1):=by
   unfold cS;rw[hc,hw,c2,f2];simp only[bne_self_eq_false,cond_false];by_cases hg:0<=hour/\hour<d.hours/\0<=known/\known<=1048576
   ·rw[decide_eq_true hg,if_pos hg];simp only[Bool.not_true,cond_false];rw[xk,List.nil_append];simp only;rw[(vP (key m (List.Perm.refl _))).2]
   ·rw[decide_eq_false hg,if_neg hg];rfl
  refine⟨⟨fT d l,(fun h=>by rw[hc]at h;cases h),fun _=>⟨fun h=>?_,fun h=>?_⟩⟩,by rw[if_neg (by simp[hc])];exact val⟩
  ·rw[hw]at h;rw[val,if_neg (by simpa only[Bool.not_eq_true',decide_eq_false_iff_not]using h)]
  ·rw[hw]at h;have hg:0<=hour/\hour<d.hours/\0<=known/\known<=1048576:=by simpa using h
   rw[c2,f2];refine⟨c1,f1,fun L hL=>?_⟩;have hk:=key L hL;refine⟨Av d l hour known L [] (fun k hk=>p2 k (hL.subset hk)) ?_,fun s hs=>?_⟩
   ·have h1:=hk.length_eq;have h2:=CK hD.right (rL d l hour known);rw[h1,List.length_nil];unfold fY;omega
   ·rw[xk,List.nil_append]at hs;cases hs;obtain⟨s1,s2⟩:=vP hk;exact⟨s1,by rw[s2,val,if_pos hg]⟩
 ·have hne:(ah d l !=0)=true:=by simpa using hc
  have val:cS d l hour known=([],ah d l):=by unfold cS;rw[hne];rfl
  refine⟨⟨fT d l,(fun _=>val.symm),fun h=>?_⟩,by rw[if_pos hc];exact val⟩;rw[hne]at h;cases h
def aP:District:=({ name:=(ByteArray.mk #[]),hours:=4,tank:=({ cap:=9,start:=9}:Tank),reaches:=[({ name:=(ByteArray.mk #[]),up:=(-1),delay:=1,cap:=50,bank:=50,siphon:=0,evap:=({ lo:=0,hi:=0}:Range),seep:=(({ n:=0,d:=1}:Ratio),({ n:=0,d:=1}:Ratio))}:Reach)],farms:=[({ name:=(ByteArray.mk #[]),reach:=0,area:=0,crop:=(-1)}:Farm),({ name:=(ByteArray.mk #[]),reach:=0,area:=0,crop:=(-1)}:Farm),({ name:=(ByteArray.mk #[]),reach:=0,area:=0,crop:=(-1)}:Farm)],crops:=[],rights:=[({ name:=(ByteArray.mk #[]),kind:=1,farm:=0,reach:=0,rank:=7,litres:=5,since:=0,to:=3,every:=1,length:=1}:Right)],duties:=[],wells:=[]}:District)
@[go_sem] def oH:List SV->Option Con:=(pE (.det True (.agg (cellsOf .district (aP)))))
theorem uh:FnOk Tryz.prog 33 oH:=by
 have hG:ConsOk Tryz.prog (mkG [] []):=aV cg0 cg0;refine cj [.st .district] mixed aC hG (fn:=Tryz.f33) (c:=ag Tryz.f33) kr kr kr kr (bw (fun hp=>?_));dsimp only[bb]at hp;refine⟨nbl rfl,L0,ak _,?_⟩
 ·unfold ag Tryz.f33;try unfold aP
  exact zq1
def iz:Ratio:=({ n:=1,d:=2}:Ratio)
@[go_sem] def qk:List SV->Option Con:=(pE (.det True (.agg [.v (.int .i64 ((iz).n)),.v (.int .i64 ((iz).d))])))
theorem uE:FnOk Tryz.prog 34 qk:=by
 have hG:ConsOk Tryz.prog (mkG [] []):=aV cg0 cg0;refine DV true mixed aC hG (fn:=Tryz.f34) (c:=ag Tryz.f34) kr kr kr kr (bw (fun hp=>?_));dsimp only[bb]at hp;refine⟨nbl rfl,L0,ak _,?_⟩
 ·unfold ag Tryz.f34;try unfold iz
  exact zq1
end Go.Sx
end
section
namespace Go.Sx
open Go.RowKit
def Fe (n0 id:Nat):Ob->SV
 | .row k l=>bif Nat.ble n0 id then .rs k l else .any
 |_=>.any
def isV:SV->Bool
 | .v _=>true
 |_=>false
def uF (n0:Nat)(h:List Ob):SV->SV
 | .v x=>.v x
 | .rs k l=>.rs k l
 | .agg l=>bif l.all isV then .agg l else .any
 | .os id=>Fe n0 id (ae h id)
 |_=>.any
def uG (n0:Nat)(h:List Ob):SV->SV
 | .tup l=>.tup (l.map (uF n0 h))
 |s=>uF n0 h s
def Aw (n0:Nat)(own:Own):Own:=fun i=>if i<n0 then own i else none
section
variable {F:Nat->Prop}{own:Own}{w:World}{n0:Nat}{h:List Ob}
theorem ql {b:Nat}(hb:¬bD F own b):¬bD F (Aw n0 own) b:=by
 rintro (hf| ⟨id,hd,e,hm⟩)
 ·exact hb (.inl hf)
 ·unfold Aw at e;split at e
  ·exact hb (.inr ⟨id,hd,e,hm⟩)
  ·cases e
theorem yW (hp:Hp F own w h):∀ (s:SV) (v:Value),Rel F own w s v->Rel F (Aw n0 own) w (uF n0 h s) v:=by
 intro s v hr;cases s with
 |v x=>exact hr.over (.v x) fun b hb=>ql hb
 |rs k l=>exact hr.over .rs fun b hb=>ql hb
 |agg l=>
  simp only[uF];cases ha:l.all isV with
  |false=>exact .any _
  |true=>
   refine hr.over (.agg fun j s hj=>?_) fun b hb=>ql hb;have:=List.all_eq_true.1 ha s (List.mem_of_getElem? hj);cases s <;>first|exact .v _|cases this
 |os id=>
  obtain⟨hd,h1,rfl,h2⟩:=dQ hr;simp only[uF];cases ho:ae h id with
  |row k l=>
   simp only[Fe];cases hn:Nat.ble n0 id with
   |false=>exact .any _
   |true=>
    have hn':=nbl hn;obtain⟨hd',e0,e⟩:=hp.at ho rfl;rw[h1]at e0;cases e0;have hnb:∀ b∈hd.bs,¬bD F (Aw n0 own) b:=by
     rintro b hb (hf| ⟨i,hi,e1,e2⟩)
     ·exact hp.apart id hd b h1 hb hf
     ·unfold Aw at e1;split at e1
      ·rename_i hlt;have:=hp.inj id i hd hi b h1 e1 hb e2;omega
      ·cases e1
    rcases e with⟨a,e1,rfl,_⟩ | ⟨b,o,cap,cs,ty,e1,e2,h3,h4,h5,h6,h7⟩
    ·rw[e1];exact .rs0
    ·rw[e1];refine .rs (fun i j=>cs.getD (o+i*aa k+j) undef) h5 h6 (fun i x hi j s hj=>?_) (fun i x hi j s hj=>?_)
     ·obtain⟨u,k1,k2⟩:=h7 i x hi j s hj;refine⟨hnb b (by simp[e2]),?_⟩;rw[bP h3,k1];simp[Array.getD_eq_getD_getElem?,k1]
     ·obtain⟨u,k1,k2⟩:=h7 i x hi j s hj;have:cs.getD (o+i*aa k+j) undef=u:=by simp[Array.getD_eq_getD_getElem?,k1]
      rw[this];exact k2.over (jM hj) fun b hb=>ql hb
  |_=>exact .any _
 |_=>exact .any _
theorem Fg (hp:Hp F own w h)(s:SV)(v:Value)(hr:Rel F own w s v):Rel F (Aw n0 own) w (uG n0 h s) v:=by
 cases s with
 |tup l=>
  cases hr with
  |tup h0 h1=>
   refine .tup (by simpa using h0) fun j s hj=>?_;obtain⟨x,hx,rfl⟩:=b_ hj;exact yW hp x _ (h1 j x hx)
 |_=>exact yW hp _ _ hr
@[go_sem] theorem OV {l:List SV}:uG n0 h (.tup l)=.tup (l.map (uF n0 h)):=(rfl)
@[go_sem] theorem QA {id:Nat}:uG n0 h (.os id)=Fe n0 id (ae h id):=(rfl)
@[go_sem] theorem Rj {x:Value}:uG n0 h (.v x)=.v x:=(rfl)
@[go_sem] theorem QB {k:Tag}{l:List k.T}:uG n0 h (.rs k l)=.rs k l:=(rfl)
@[go_sem] theorem OW {l:List SV}:uG n0 h (.agg l)=bif l.all isV then .agg l else .any:=(rfl)
@[go_sem] theorem Rk {x:Value}:uF n0 h (.v x)=.v x:=(rfl)
@[go_sem] theorem QC {k:Tag}{l:List k.T}:uF n0 h (.rs k l)=.rs k l:=(rfl)
@[go_sem] theorem OX {l:List SV}:uF n0 h (.agg l)=bif l.all isV then .agg l else .any:=(rfl)
@[go_sem] theorem QD {id:Nat}:uF n0 h (.os id)=Fe n0 id (ae h id):=(rfl)
@[go_sem] theorem OY {k:Tag}{l:List k.T}{id:Nat}:Fe n0 id (.row k l)=bif Nat.ble n0 id then .rs k l else .any:=(rfl)
@[go_sem] theorem isV_v {x:Value}:isV (.v x)=true:=(rfl)
end
def Fh (pks:List Pk)(n0:Nat)(S:SV)(H:List Ob)(h:List Ob):Option SV->Prop
 |some s=>S=og pks (uG n0 h s)/\fm ⟨[],H⟩ n0 ⟨[],h⟩
 |none=>False
def IK (pks:List Pk)(n0:Nat)(rs:List ResultVar)(ts:Tis)(S:SV)(H:List Ob):Ex->St->Prop
 | .exit _,_=>False
 | .normal,st=>Fh pks n0 S H st.h (jh (ir ts st rs))
 | .ret,st=>Fh pks n0 S H st.h (jh (ir ts st rs))
 | .pan _,_=>False
section
variable {P:Program}{ts:Tis}{G:Cons}{n0:Nat}{S s:SV}{H h:List Ob}{rs:List ResultVar}{st:St}{pks:List Pk}
@[go_sem] theorem MT:Fh pks n0 S H h (some s)=(S=og pks (uG n0 h s)/\fm ⟨[],H⟩ n0 ⟨[],h⟩):=(rfl)
@[go_sem] theorem HT:IK pks n0 rs ts S H .normal st=Fh pks n0 S H st.h (jh (ir ts st rs)):=(rfl)
@[go_sem] theorem MU:IK pks n0 rs ts S H .ret st=Fh pks n0 S H st.h (jh (ir ts st rs)):=(rfl)
end
def HU (h:List Ob):Option Con->Option HCon
 |some (.det p s) =>some (dK p (uG 0 (av 3 s) (er 3 0 s)) (h.map fun _=>.dead))
 |_=>none
def CN (C:List SV->Option Con)(l:List SV)(h:List Ob):Option HCon:=HU h (C (l.map (dl h 6)))
@[go_sem] theorem QE {C:List SV->Option Con}{l:List SV}{h:List Ob}:CN C l h=HU h (C (l.map (dl h 6))):=(rfl)
@[go_sem] theorem OZ {h:List Ob}{p:Prop}{s:SV}:HU h (some (.det p s))=some (dK p (uG 0 (av 3 s) (er 3 0 s)) (h.map fun _=>.dead)):=(rfl)
section
variable {P:Program}{F:Nat->Prop}{own:Own}{w w':World}
def Fi (own:Own):Own:=fun i=>(own i).map fun hd=>{ hd with bs:=[]}
theorem HV {b:Nat}(hb:¬F b):¬bD F (Fi own) b:=by
 rintro (hf| ⟨id,hd,e,hm⟩)
 ·exact hb hf
 ·unfold Fi at e;cases h:own id with
  |none=>rw[h]at e;cases e
  |some x=>rw[h]at e;cases e;cases hm
theorem FnOk.eat {f:FuncId}{C:List SV->Option Con}(hf:FnOk P f C):FnOkO P f (CN C) where
 enter:=fun l h c e=>by
  unfold CN at e;cases hc:C (l.map (dl h 6))with
  |none=>rw[hc]at e;cases e
  |some c'=>exact hf.enter _ c' hc
 calls:=fun l h c e hp F own w vs hH hr=>by
  unfold CN at e;cases hc:C (l.map (dl h 6))with
  |none=>rw[hc]at e;cases e
  |some c'=>
   rw[hc]at e;cases c' with
   |det p s=>
    simp only[HU,Option.some.injEq]at e;subst e;have n0:∀ {F':Nat->Prop} {w1:World},(∀ b,F' b->b<w1.heap.size)->Hp F' bX w1 []:=fun hf=>⟨(fun id hd h=>by cases h),hf,(fun id hd b h=>by cases h),(fun i j hi hj b h=>by cases h),(fun id hd b h=>by cases h),(fun id h=>by cases h)⟩;have hE:∀ {id:Nat} {hd:Hd},Fi own id=some hd->hd.bs=[]/\id<h.length:=fun {id hd} h=>by
     unfold Fi at h;cases ho:own id with
     |none=>rw[ho]at h;cases h
     |some x=>rw[ho]at h;cases h;exact⟨rfl,hH.dom id x ho⟩
    refine(hf.calls _ _ hc hp F w vs hH.foreign ⟨by simpa using hr.1,fun j s hj=>?_⟩).mono ?_
    ·obtain⟨x,hx,rfl⟩:=b_ hj;exact nS hH 6 x _ (hr.2 j x hx)
    ·rintro e w' (⟨s',u,own',h1,h2,h3,h4⟩ | ⟨x,hx,_⟩)
     ·cases h1;obtain⟨own2,q1,q2,q3,q4⟩:=qI (n0 hH.foreign) (.inl fun b=>⟨fun h=>.inl h,fun h=>h.elim id fun⟨_,_,h,_⟩ =>by cases h⟩) h4 h3;have q5:=Fg (n0:=0) q1 _ _ q3;refine⟨(),Fi own,trivial,⟨u,h2,?_⟩,?_,?_,by simp⟩
      ·refine q5.carry ⟨fun id hd h=>by simp[Aw]at h,fun b _ hb=>⟨HV fun hf=>hb (.inl hf),rfl⟩⟩
      ·refine⟨fun id hd h=>by rw[List.length_map];exact(hE h).2,fun b hb=>Nat.lt_of_lt_of_le (hH.foreign b hb) h4.size,fun id hd b h hm=>?_,fun i j hi hj b h _ hm=>?_,fun id hd b h hm=>?_,fun id hd=>?_⟩
       ·rw[(hE h).1]at hm;cases hm
       ·rw[(hE h).1]at hm;cases hm
       ·rw[(hE h).1]at hm;cases hm
       ·rw[jy,List.getElem?_map]at hd;cases ho:h[id]? <;>rw[ho]at hd <;>simp[bZ]at hd
      ·refine⟨fun id hd h=>?_,fun id hd b h hm=>?_,h4.os,h4.tape,h4.output,h4.size,fun k hk=>h4.block k hk.1⟩
       ·exact⟨{ hd with bs:=[]},by show(own id).map _=_;rw[show own id=some hd from h];rfl,rfl,rfl,rfl⟩
       ·rw[(hE h).1]at hm;cases hm
     ·cases hx
   |_=>cases e
end
end Go.Sx
end
