/- Part of the proof that the law JudgementDate returns true and leaves its arguments as they were, for all arguments of bulk at most 1048576 (the Upto form). -/
import Derived.Test.YtnanafpgfihjfaaGreatJ301
import Derived.Attr
import Derived.Test.YtnanafpgfihjfaaGreatJ306
import Derived.RangeFuncIn
import Derived.TacticsIn
import Derived.RecoverIn
import Derived.Laws.Pointers
set_option linter.all false
set_option maxHeartbeats 4000000
set_option maxRecDepth 100000
section
namespace Go.Sx
def It (k:TI→OR):Option TI→OR
 |some i=>k i
 |none=>.bad
section
variable {ts:Tis}{G:Cons}{L:uk}{t:List (Nat×SV)}{h:List Ob}{Q:Ex→St→Prop}{K:St→Prop}{Z:Value→St→Prop}{ops rest:List Oper}{nx:Nat}
variable {st st':St}
@[congr] theorem SG {c:Code}(e:st=st'):exec ts G L c st Q=exec ts G L c st' Q:=by rw[e]
@[congr] theorem OL (e:st=st'):i7 ts G ops rest st K Z=i7 ts G ops rest st' K Z:=by rw[e]
@[congr] theorem Ru {i b:Nat}{fps fps':List Fp}(e0:fps=fps')(e:st=st'):jN ts G ops K Z rest i b fps st=jN ts G ops K Z rest i b fps' st':=by rw[e,e0]
@[congr] theorem Rv {d:Option Nat}{r r':OR}(e:r=r'):mm G d st K Z r=mm G d st K Z r':=by rw[e]
@[congr] theorem Rw {d:Option Nat}{g:Nat×Bool}{r r':OR}(e:r=r'):stepG G ops g d st K Z r=stepG G ops g d st K Z r':=by rw[e]
@[congr] theorem Pz {d:Option Nat}{next:List Nat→List Up→St→Prop}{p:Prop}{r r':Option Dr}(e:r=r'):xR d st next p r=xR d st next p r':=by rw[e]
@[congr] theorem PA {d:Option Nat}{g:Nat×Bool}{next:List Nat→List Up→St→Prop}{p:Prop}{r r':Option Dr}(e:r=r'):wb ops g d st next p r=wb ops g d st next p r':=by rw[e]
@[congr] theorem Rx {x y:(Ex→St→Prop)→Prop}{Q:Ex→St→Prop}{s s':SV}{c c':Option LCon}(e:s=s')(e2:c=c'):Bt x y Q s c=Bt x y Q s' c':=by rw[e,e2]
@[congr] theorem Ry {x:(Ex→St→Prop)→Prop}{Q:Ex→St→Prop}{c c':Option LCon}(e:c=c'):Bu x Q c=Bu x Q c':=by rw[e]
@[congr] theorem Rz {c c':Option LCon}(e:c=c'):rS Q c=rS Q c':=by rw[e]
@[go_sem] theorem Ux:exec ts G L .skip ⟨t,h⟩ Q=Q .normal ⟨t,h⟩:=(rfl)
@[go_sem] theorem RA {id:Nat}{a:Array Oper}{d:Bool}:exec ts G L (.region id a d) ⟨t,h⟩ Q=Bu (Ae ts G a d ⟨t,h⟩) Q (L (id+2000000) ⟨t,h⟩):=(rfl)
@[go_sem] theorem RB:Ae ts G ops.toArray false ⟨t,h⟩ Q=i7 ts G ops ops ⟨t,h⟩ (fun st'=>Q .normal (wc ops st')) (fun x st'=>Q (.pan x) st'):=(rfl)
@[go_sem] theorem SH {x:(Ex→St→Prop)→Prop}:Bu x Q none=x Q:=(rfl)
@[go_sem] theorem SI {d:St}:inC d Q .normal ⟨t,h⟩=(h=d.h∧subJ t d.t):=(rfl)
@[go_sem] theorem Y0 {d st:St}{x:Value}:inC d Q (.pan x) st=Q (.pan x) st:=(rfl)
@[go_sem] theorem WR {a b:Code}:exec ts G L (.seq a b) ⟨t,h⟩ Q=exec ts G L a ⟨t,h⟩ (Ex.then (fun st'=>exec ts G L b st' Q) Q):=(rfl)
@[go_sem] theorem Uy {c:Operand}{x y:Code}:exec ts G L (.cond c x y) ⟨t,h⟩ Q=Bt (exec ts G L x ⟨t,h⟩) (exec ts G L y ⟨t,h⟩) Q (raw t c) (L (Mj c) ⟨t,h⟩):=(rfl)
@[go_sem] theorem SJ {x y:(Ex→St→Prop)→Prop}{s:SV}:Bt x y Q s none=xw (x Q) (y Q) s:=(rfl)
@[go_sem] theorem WS {x y:(Ex→St→Prop)→Prop}{s:SV}{d:St}:Bt x y Q s (some (JC d))=(xw (x (inJ d)) (y (inJ d)) s∧Q .normal d):=by
 have e:(fun e st=>∃ r,(JC d).post r∧inJ ((JC d).out r) e st)=inJ d:=by
  funext e st
  exact propext ⟨fun⟨_,_,h⟩ =>h,fun h=>⟨(),trivial,h⟩⟩
 show Mk x y Q s (JC d)=_;unfold Mk;rw[e];exact propext ⟨fun h=>⟨h.1,h.2 () trivial⟩,fun h=>⟨h.1,fun _ _=>h.2⟩⟩
@[go_sem] theorem WT {n:Nat}:Mj (.tmp n)=n+1000000:=(rfl)
@[go_sem] theorem SK {d:St}:inJ d .normal ⟨t,h⟩=(h=d.h∧subJ t d.t):=(rfl)
@[go_sem] theorem WU:subJ t []=True:=(rfl)
@[go_sem] theorem Uz {n:Nat}{s:SV}{r:List (Nat×SV)}:subJ t ((n,s)::r)=(lk n t=s∧subJ t r):=(rfl)
@[go_sem] theorem MS {id:Nat}{c:Code}:exec ts G L (.block id (.loop c)) ⟨t,h⟩ Q=rS Q (L id ⟨t,h⟩):=(rfl)
@[go_sem] theorem LO {id:Nat}{f:Operand}{ps:Array Tmp}{a b:Code}:exec ts G L (.block id (.rangeFunc f ps a b)) ⟨t,h⟩ Q=rS Q (L id ⟨t,h⟩):=(rfl)
@[go_sem] theorem MT {id:Nat}{a b:Code}:exec ts G L (.block id (.seq a b)) ⟨t,h⟩ Q=exec ts G L (.seq a b) ⟨t,h⟩ (Ex.block id Q):=(rfl)
@[go_sem] theorem LP {id:Nat}{c:Operand}{a b:Code}:exec ts G L (.block id (.cond c a b)) ⟨t,h⟩ Q=exec ts G L (.cond c a b) ⟨t,h⟩ (Ex.block id Q):=(rfl)
@[go_sem] theorem Jw {id j:Nat}{a:Array Oper}{d:Bool}:exec ts G L (.block id (.region j a d)) ⟨t,h⟩ Q=exec ts G L (.region j a d) ⟨t,h⟩ (Ex.block id Q):=(rfl)
@[go_sem] theorem LQ {id:Nat}:exec ts G L (.block id .skip) ⟨t,h⟩ Q=exec ts G L .skip ⟨t,h⟩ (Ex.block id Q):=(rfl)
@[go_sem] theorem UA {id:Nat}:exec ts G L (.exit id) ⟨t,h⟩ Q=Q (.exit id) ⟨t,h⟩:=(rfl)
@[go_sem] theorem WV:exec ts G L .ret ⟨t,h⟩ Q=Q .ret ⟨t,h⟩:=(rfl)
@[go_sem] theorem Lb {id:Nat}{c:Code}:exec ts G L (.block id (.scope c)) ⟨t,h⟩ Q=exec ts G L (.scope c) ⟨t,h⟩ (Ex.block id Q):=(rfl)
@[go_sem] theorem Lc {id l:Nat}:exec ts G L (.block id (.label l)) ⟨t,h⟩ Q=exec ts G L (.label l) ⟨t,h⟩ (Ex.block id Q):=(rfl)
@[go_sem] theorem SL {c:Code}:exec ts G L (.scope c) ⟨t,h⟩ Q=exec ts G L c ⟨t,h⟩ Q:=(rfl)
@[go_sem] theorem SM {l:Nat}:exec ts G L (.label l) ⟨t,h⟩ Q=Q .normal ⟨t,h⟩:=(rfl)
@[go_sem] theorem RD {st:St}:Ex.then K Q .normal st=K st:=(rfl)
@[go_sem] theorem WW {st:St}:Ex.then K Q .ret st=Q .ret st:=(rfl)
@[go_sem] theorem UB {st:St}{j:Nat}:Ex.then K Q (.exit j) st=Q (.exit j) st:=(rfl)
@[go_sem] theorem PB {st:St}{id:Nat}:Ex.block id Q .normal st=Q .normal st:=(rfl)
@[go_sem] theorem UC {st:St}{id:Nat}:Ex.block id Q .ret st=Q .ret st:=(rfl)
@[go_sem] theorem WX {st:St}{v:Value}:Ex.then K Q (.pan v) st=Q (.pan v) st:=(rfl)
@[go_sem] theorem UD {st:St}{id:Nat}{v:Value}:Ex.block id Q (.pan v) st=Q (.pan v) st:=(rfl)
@[go_sem] theorem SN {st:St}{id j:Nat}:Ex.block id Q (.exit j) st=bif Nat.beq j id then Q .normal st else Q (.exit j) st:=(rfl)
@[go_sem] theorem Y1 {x y:Prop}{b:Bool}:xw x y (.v (.bool b))=((b=true→x)∧(b=false→y)):=(rfl)
@[go_sem] theorem SO {α:Type}{pre:Prop}{post:α→Prop}{ex:α→Ex}{out:α→St}:rS Q (some ⟨α,pre,post,ex,out⟩)=(pre∧∀ r,post r→Q (ex r) (out r)):=(rfl)
@[go_sem] theorem SP:Ae ts G ops.toArray true ⟨t,h⟩ Q=jN ts G ops (fun st'=>Q .normal (wc ops st')) (fun x st'=>Q (.pan x) st') ops 0 0 [] ⟨t,h⟩:=(rfl)
@[go_sem] theorem RE:i7 ts G ops [] ⟨t,h⟩ K Z=K ⟨t,h⟩:=(rfl)
@[go_sem] theorem PC {d:Option Nat}{op:Op}{ty:TypeId}{pos:String}{af:Array Edge}:i7 ts G ops (⟨d,op,ty,pos,af,none⟩::rest) ⟨t,h⟩ K Z=mm G d ⟨t,h⟩ (fun st'=>i7 ts G ops rest st' K Z) Z (opS ⟨ts,ops,none,⟨t,h⟩,h.length⟩ op):=(rfl)
@[go_sem] theorem SQ {i b:Nat}{fps:List Fp}{d:Option Nat}{op:Op}{ty:TypeId}{pos:String}{af:Array Edge}:jN ts G ops K Z (⟨d,op,ty,pos,af,none⟩::rest) i b fps ⟨t,h⟩=xR d ⟨t,h⟩ (fun all ups st'=>jN ts G ops K Z rest (i+1) b (fps++[fpU op (fpO ⟨ts,ops,none,⟨t,h⟩,h.length⟩ op) all ups]) st') (so ops b fps∧Bq ops i=true∧mm G d ⟨t,h⟩ (fun st'=>jN ts G ops K Z rest (i+1) (i+1) [] st') Z (opS ⟨ts,ops,none,⟨t,h⟩,h.length⟩ op)) (jI G h h.length (opS ⟨ts,ops,none,⟨t,h⟩,h.length⟩ op)):=(rfl)
@[go_sem] theorem PD {d:Option Nat}{op:Op}{ty:TypeId}{pos:String}{af:Array Edge}{g:Nat×Bool}:i7 ts G ops (⟨d,op,ty,pos,af,some g⟩::rest) ⟨t,h⟩ K Z=stepG G ops g d ⟨t,h⟩ (fun st'=>i7 ts G ops rest st' K Z) Z (opS ⟨ts,ops,some g,⟨t,h⟩,h.length⟩ op):=(rfl)
@[go_sem] theorem SR {i b:Nat}{fps:List Fp}{d:Option Nat}{op:Op}{ty:TypeId}{pos:String}{af:Array Edge}{g:Nat×Bool}:jN ts G ops K Z (⟨d,op,ty,pos,af,some g⟩::rest) i b fps ⟨t,h⟩=wb ops g d ⟨t,h⟩ (fun all ups st'=>jN ts G ops K Z rest (i+1) b (fps++[fpU op (fpO ⟨ts,ops,some g,⟨t,h⟩,h.length⟩ op) all ups]) st') (so ops b fps∧Bq ops i=true∧stepG G ops g d ⟨t,h⟩ (fun st'=>jN ts G ops K Z rest (i+1) (i+1) [] st') Z (opS ⟨ts,ops,some g,⟨t,h⟩,h.length⟩ op)) (jI G h h.length (opS ⟨ts,ops,some g,⟨t,h⟩,h.length⟩ op)):=(rfl)
@[go_sem] theorem UE {i b:Nat}{fps:List Fp}:jN ts G ops K Z [] i b fps ⟨t,h⟩=(so ops b fps∧K ⟨t,h⟩):=(rfl)
@[go_sem] theorem UF {d:Nat}{s:SV}:mm G (some d) ⟨t,h⟩ K Z (.val s)=K ⟨(d,s)::t,h⟩:=(rfl)
@[go_sem] theorem UG {d:Nat}{s:SV}{c:Prop}:mm G (some d) ⟨t,h⟩ K Z (.chk c s)=(c∧K ⟨(d,s)::t,h⟩):=(rfl)
@[go_sem] theorem UH {d:Nat}{s:SV}{c:Prop}:mm G (some d) ⟨t,h⟩ K Z (.asm c s)=(c→K ⟨(d,s)::t,h⟩):=(rfl)
@[go_sem] theorem SS {d:Nat}{s:SV}:mm G (some d) ⟨t,h⟩ K Z (.newr s)=K ⟨(d,s)::t,h⟩:=(rfl)
@[go_sem] theorem UJ {d:Nat}{s:SV}{c a:Prop}{ups:List Up}:mm G (some d) ⟨t,h⟩ K Z (.eff c a ups s)=(c∧(a→K ⟨(d,s)::t,aR h ups⟩)):=(rfl)
@[go_sem] theorem UK {d:Nat}{g:Nat×Bool}:stepG G ops g (some d) ⟨t,h⟩ K Z .bad=(uV ops t ops.length g∧K ⟨(d,.gd g.1 g.2 .any)::t,h⟩):=(rfl)
@[go_sem] theorem SU {g:Nat×Bool}:stepG G ops g none ⟨t,h⟩ K Z .bad=(uV ops t ops.length g∧K ⟨t,h⟩):=(rfl)
@[go_sem] theorem UL {d:Nat}{s:SV}{g:Nat×Bool}:stepG G ops g (some d) ⟨t,h⟩ K Z (.val s)=K ⟨(d,.gd g.1 g.2 s)::t,h⟩:=(rfl)
@[go_sem] theorem UN {d:Nat}{s:SV}{g:Nat×Bool}{c:Prop}:stepG G ops g (some d) ⟨t,h⟩ K Z (.chk c s)=((cV ops t ops.length g→c)∧K ⟨(d,.gd g.1 g.2 s)::t,h⟩):=(rfl)
@[go_sem] theorem UO {d:Nat}{s:SV}{g:Nat×Bool}{c:Prop}:stepG G ops g (some d) ⟨t,h⟩ K Z (.asm c s)=K ⟨(d,.gd g.1 g.2 s)::t,h⟩:=(rfl)
@[go_sem] theorem SW {d:Nat}{s:SV}{g:Nat×Bool}:stepG G ops g (some d) ⟨t,h⟩ K Z (.newr s)=K ⟨(d,.gd g.1 g.2 s)::t,h⟩:=(rfl)
@[go_sem] theorem UP {d:Nat}{s:SV}{g:Nat×Bool}{c a:Prop}{ups:List Up}:stepG G ops g (some d) ⟨t,h⟩ K Z (.eff c a ups s)=((cV ops t ops.length g→c∧(a→K ⟨(d,.gd g.1 g.2 s)::t,aR h ups⟩))∧(f6 ops t ops.length g→K ⟨(d,.gd g.1 g.2 .any)::t,h⟩)):=(rfl)
@[go_sem] theorem UQ {c:Option HCon}{np:Bool}{ids:List Nat}{d:Nat}{s:SV}{p:Prop}:wa np ids (some d) ⟨t,h⟩ K Z c (some (.det p s))=bif np||g8 3 s then(p∧K ⟨(d,ii 3 h.length s)::t,h++aF 3 s⟩)else yA ids (some d) ⟨t,h⟩ K Z c:=(rfl)
@[go_sem] theorem UR {c:Option HCon}{np:Bool}{ids:List Nat}{d:Nat}{α:Type}{pre:Prop}{post:α→Prop}{out:α→SV}:wa np ids (some d) ⟨t,h⟩ K Z c (some (.rel α pre post out))=(pre∧(bif np then ∀ r,post r→K ⟨(d,ii 3 h.length (out r))::t,h++aF 3 (out r)⟩else False)):=(rfl)
@[go_sem] theorem US {c:Option HCon}{np:Bool}{ids:List Nat}{d:Nat}{s:SV}{ok:Bool}{x:Value}:wa np ids (some d) ⟨t,h⟩ K Z c (some (.may ok s x))=(bif np||g8 3 s then(ok=true→K ⟨(d,ii 3 h.length s)::t,h++aF 3 s⟩)∧(ok=false→Z x ⟨ungd t,h⟩)else False):=(rfl)
@[go_sem] theorem WY {ids:List Nat}{d:Nat}{s:SV}{h':List Ob}:HK ids (some d) ⟨t,h⟩ K Z (.ret s h')=K ⟨(d,ren (rR ids h.length) 3 s)::t,ny ids h.length h 0 h'⟩:=(rfl)
@[go_sem] theorem WZ {ids:List Nat}{d:Nat}{s:SV}{h':List Ob}{g:Nat×Bool}:FP ids g (some d) ⟨t,h⟩ K Z (.ret s h')=K ⟨(d,.gd g.1 g.2 (ren (rR ids h.length) 3 s))::t,ny ids h.length h 0 h'⟩:=(rfl)
@[go_sem] theorem RG {ids:List Nat}{d:Option Nat}{g:Nat×Bool}:v_ ids ops g d st K Z none=(uV ops st.t ops.length g∧K (st.put d (.gd g.1 g.2 .any))):=(rfl)
@[go_sem] theorem RH {ids:List Nat}{d:Nat}{o:HCon}{g:Nat×Bool}:v_ ids ops g (some d) ⟨t,h⟩ K Z (some o)=((cV ops t ops.length g→o.pre∧∀ r,o.post r→FP ids g (some d) ⟨t,h⟩ K Z (o.res r))∧(f6 ops t ops.length g→K ⟨(d,.gd g.1 g.2 .any)::t,h⟩)):=(rfl)
@[go_sem] theorem UT {c:Option HCon}{np:Bool}{ids:List Nat}{d:Nat}{s:SV}{g:Nat×Bool}{p:Prop}:Br np ids ops g (some d) ⟨t,h⟩ K Z c (some (.det p s))=((cV ops t ops.length g→p)∧(bif(np||g8 3 s)&&(aF 3 s).isEmpty then K ⟨(d,.gd g.1 g.2 s)::t,h⟩else False)):=(rfl)
@[go_sem] theorem UU {id:Nat}{d:Nat}{α:Type}{pre:Prop}{post:α→Prop}{res:α→Bool×Res}:HL id (some d) ⟨t,h⟩ K (some ⟨α,pre,post,res⟩)=(pre∧∀ r,post r→K ⟨(d,.b (res r).1)::t,bf h id (.ab (res r).2)⟩):=(rfl)
@[go_sem] theorem UV {id:Nat}{d:Nat}{α:Type}{pre:Prop}{post:α→Prop}{res:α→Bool×Res}{g:Nat×Bool}:FQ id ops g (some d) ⟨t,h⟩ K (some ⟨α,pre,post,res⟩)=((cV ops t ops.length g→pre∧∀ r,post r→K ⟨(d,.gd g.1 g.2 (.b (res r).1))::t,bf h id (.ab (res r).2)⟩)∧(f6 ops t ops.length g→K ⟨(d,.gd g.1 g.2 .any)::t,h⟩)):=(rfl)
@[go_sem] theorem aay {K0:Prop}{d:Nat}{next:List Nat→List Up→St→Prop}{c a:Prop}{s:SV}{ups:List Up}{all:List Nat}:xR (some d) ⟨t,h⟩ next K0 (some ⟨c,a,s,ups,all⟩)=(c∧(a→next all ups ⟨(d,s)::t,aR h ups⟩)):=(rfl)
@[go_sem] theorem aaz {K0:Prop}{d:Nat}{next:List Nat→List Up→St→Prop}{c a:Prop}{s:SV}{ups:List Up}{all:List Nat}{g:Nat×Bool}:wb ops g (some d) ⟨t,h⟩ next K0 (some ⟨c,a,s,ups,all⟩)=bif ups.isEmpty then(cV ops t ops.length g→c)∧next all [] ⟨(d,.gd g.1 g.2 s)::t,h⟩else ¬ (cV ops t ops.length g∧f6 ops t ops.length g)∧(cV ops t ops.length g→c∧(a→next all ups ⟨(d,.gd g.1 g.2 s)::t,aR h ups⟩))∧(f6 ops t ops.length g→next all [] ⟨(d,.gd g.1 g.2 s)::t,h⟩):=(rfl)
@[go_sem] theorem SX {s:SV}:mm G none ⟨t,h⟩ K Z (.val s)=K ⟨t,h⟩:=(rfl)
@[go_sem] theorem SY {s:SV}{c:Prop}:mm G none ⟨t,h⟩ K Z (.chk c s)=(c∧K ⟨t,h⟩):=(rfl)
@[go_sem] theorem SZ {s:SV}{c:Prop}:mm G none ⟨t,h⟩ K Z (.asm c s)=(c→K ⟨t,h⟩):=(rfl)
@[go_sem] theorem RI {s:SV}:mm G none ⟨t,h⟩ K Z (.newr s)=K ⟨t,h⟩:=(rfl)
@[go_sem] theorem S0 {s:SV}{c a:Prop}{ups:List Up}:mm G none ⟨t,h⟩ K Z (.eff c a ups s)=(c∧(a→K ⟨t,aR h ups⟩)):=(rfl)
@[go_sem] theorem S3 {s:SV}{g:Nat×Bool}:stepG G ops g none ⟨t,h⟩ K Z (.val s)=K ⟨t,h⟩:=(rfl)
@[go_sem] theorem S4 {s:SV}{g:Nat×Bool}{c:Prop}:stepG G ops g none ⟨t,h⟩ K Z (.chk c s)=((cV ops t ops.length g→c)∧K ⟨t,h⟩):=(rfl)
@[go_sem] theorem S5 {s:SV}{g:Nat×Bool}{c:Prop}:stepG G ops g none ⟨t,h⟩ K Z (.asm c s)=K ⟨t,h⟩:=(rfl)
@[go_sem] theorem RJ {s:SV}{g:Nat×Bool}:stepG G ops g none ⟨t,h⟩ K Z (.newr s)=K ⟨t,h⟩:=(rfl)
@[go_sem] theorem S6 {s:SV}{g:Nat×Bool}{c a:Prop}{ups:List Up}:stepG G ops g none ⟨t,h⟩ K Z (.eff c a ups s)=((cV ops t ops.length g→c∧(a→K ⟨t,aR h ups⟩))∧(f6 ops t ops.length g→K ⟨t,h⟩)):=(rfl)
@[go_sem] theorem S7 {c:Option HCon}{np:Bool}{ids:List Nat}{s:SV}{p:Prop}:wa np ids none ⟨t,h⟩ K Z c (some (.det p s))=bif np||g8 3 s then(p∧K ⟨t,h++aF 3 s⟩)else yA ids none ⟨t,h⟩ K Z c:=(rfl)
@[go_sem] theorem S8 {c:Option HCon}{np:Bool}{ids:List Nat}{α:Type}{pre:Prop}{post:α→Prop}{out:α→SV}:wa np ids none ⟨t,h⟩ K Z c (some (.rel α pre post out))=(pre∧(bif np then ∀ r,post r→K ⟨t,h++aF 3 (out r)⟩else False)):=(rfl)
@[go_sem] theorem S9 {c:Option HCon}{np:Bool}{ids:List Nat}{s:SV}{ok:Bool}{x:Value}:wa np ids none ⟨t,h⟩ K Z c (some (.may ok s x))=(bif np||g8 3 s then(ok=true→K ⟨t,h++aF 3 s⟩)∧(ok=false→Z x ⟨ungd t,h⟩)else False):=(rfl)
@[go_sem] theorem UW {ids:List Nat}{s:SV}{h':List Ob}:HK ids none ⟨t,h⟩ K Z (.ret s h')=K ⟨t,ny ids h.length h 0 h'⟩:=(rfl)
@[go_sem] theorem UX {ids:List Nat}{s:SV}{h':List Ob}{g:Nat×Bool}:FP ids g none ⟨t,h⟩ K Z (.ret s h')=K ⟨t,ny ids h.length h 0 h'⟩:=(rfl)
@[go_sem] theorem PE {ids:List Nat}{o:HCon}{g:Nat×Bool}:v_ ids ops g none ⟨t,h⟩ K Z (some o)=((cV ops t ops.length g→o.pre∧∀ r,o.post r→FP ids g none ⟨t,h⟩ K Z (o.res r))∧(f6 ops t ops.length g→K ⟨t,h⟩)):=(rfl)
@[go_sem] theorem S_ {c:Option HCon}{np:Bool}{ids:List Nat}{s:SV}{g:Nat×Bool}{p:Prop}:Br np ids ops g none ⟨t,h⟩ K Z c (some (.det p s))=((cV ops t ops.length g→p)∧(bif(np||g8 3 s)&&(aF 3 s).isEmpty then K ⟨t,h⟩else False)):=(rfl)
@[go_sem] theorem Ta {id:Nat}{α:Type}{pre:Prop}{post:α→Prop}{res:α→Bool×Res}:HL id none ⟨t,h⟩ K (some ⟨α,pre,post,res⟩)=(pre∧∀ r,post r→K ⟨t,bf h id (.ab (res r).2)⟩):=(rfl)
@[go_sem] theorem Tb {id:Nat}{α:Type}{pre:Prop}{post:α→Prop}{res:α→Bool×Res}{g:Nat×Bool}:FQ id ops g none ⟨t,h⟩ K (some ⟨α,pre,post,res⟩)=((cV ops t ops.length g→pre∧∀ r,post r→K ⟨t,bf h id (.ab (res r).2)⟩)∧(f6 ops t ops.length g→K ⟨t,h⟩)):=(rfl)
@[go_sem] theorem Y2 {K0:Prop}{next:List Nat→List Up→St→Prop}{c a:Prop}{s:SV}{ups:List Up}{all:List Nat}:xR none ⟨t,h⟩ next K0 (some ⟨c,a,s,ups,all⟩)=(c∧(a→next all ups ⟨t,aR h ups⟩)):=(rfl)
@[go_sem] theorem Y3 {K0:Prop}{next:List Nat→List Up→St→Prop}{c a:Prop}{s:SV}{ups:List Up}{all:List Nat}{g:Nat×Bool}:wb ops g none ⟨t,h⟩ next K0 (some ⟨c,a,s,ups,all⟩)=bif ups.isEmpty then(cV ops t ops.length g→c)∧next all [] ⟨t,h⟩else ¬ (cV ops t ops.length g∧f6 ops t ops.length g)∧(cV ops t ops.length g→c∧(a→next all ups ⟨t,aR h ups⟩))∧(f6 ops t ops.length g→next all [] ⟨t,h⟩):=(rfl)
@[go_sem] theorem RK {d:Option Nat}{next:List Nat→List Up→St→Prop}{p:Prop}:xR d st next p none=p:=(rfl)
@[go_sem] theorem RL {d:Option Nat}{next:List Nat→List Up→St→Prop}{p:Prop}{g:Nat×Bool}:wb ops g d st next p none=p:=(rfl)
@[go_sem] theorem Tc {d:Option Nat}{f:FuncId}{args:List SV}:mm G d ⟨t,h⟩ K Z (.call f args)=wa (args.all (ca 3)) (reach h 64 (args.flatMap (fq 3)) []) d ⟨t,h⟩ K Z (G.o f (args.map (ren (inN (reach h 64 (args.flatMap (fq 3)) [])) 6)) (r5 h (reach h 64 (args.flatMap (fq 3)) []))) (G.p f (args.map (eY h 6))):=(rfl)
@[go_sem] theorem Td {d:Option Nat}{f:FuncId}{args:List SV}{g:Nat×Bool}:stepG G ops g d ⟨t,h⟩ K Z (.call f args)=Br (args.all (ca 3)) (reach h 64 (args.flatMap (fq 3)) []) ops g d ⟨t,h⟩ K Z (G.o f (args.map (ren (inN (reach h 64 (args.flatMap (fq 3)) [])) 6)) (r5 h (reach h 64 (args.flatMap (fq 3)) []))) (G.p f (args.map (eY h 6))):=(rfl)
@[go_sem] theorem UY {d:Option Nat}{id:Nat}{args:List SV}:mm G d ⟨t,h⟩ K Z (.yld id args)=bif args.all (ca 3)then HL id d ⟨t,h⟩ K (Ew G args (aj h id))else False:=(rfl)
@[go_sem] theorem UZ {d:Option Nat}{id:Nat}{args:List SV}{g:Nat×Bool}:stepG G ops g d ⟨t,h⟩ K Z (.yld id args)=bif args.all (ca 3)then FQ id ops g d ⟨t,h⟩ K (Ew G args (aj h id))else False:=(rfl)
@[go_sem] theorem Y4 {args:List SV}{r:Res}:Ew G args (.ab r)=G.y args r:=(rfl)
@[go_sem] theorem U0 {d:Option Nat}{id:Nat}:mm G d ⟨t,h⟩ K Z (.nxt id)=Pa id d ⟨t,h⟩ K (aj h id):=(rfl)
@[go_sem] theorem Y5 {d:Option Nat}{id mid n:Nat}{left:List Nat}{cur:Option Nat}:Pa id d ⟨t,h⟩ K (.mi (some mid) n left cur)=Mh id mid n left d ⟨t,h⟩ K (aj h mid):=(rfl)
@[go_sem] theorem Y6 {d id mid n it:Nat}{left:List Nat}{kk vk:Tag}{l:List (kk.T×vk.T)}:Mh id mid n left (some d) ⟨t,h⟩ K (.mp kk vk l (some (it,none)))=((it=id∧n=l.length)∧(left=[]→K ⟨(d,.tup [.v (.bool false)])::t,h⟩)∧∀ j,j∈left→K ⟨(d,.tup [.v (.bool true),svT kk (l.getD j (ff kk,ff vk)).1,svT vk (l.getD j (ff kk,ff vk)).2])::t,bf h id (.mi (some mid) n (left.erase j) (some j))⟩):=(rfl)
@[go_sem] theorem W0 {id:Nat}:jI G h nx (.nxt id)=none:=(rfl)
@[go_sem] theorem W2 {p:Bool→Prop}:jI G h nx (.amb p)=none:=(rfl)
@[go_sem] theorem U1 {d:Nat}{p:Bool→Prop}:mm G (some d) ⟨t,h⟩ K Z (.amb p)= ∀ b,p b→K ⟨(d,.v (.bool b))::t,h⟩:=(rfl)
@[go_sem] theorem U3 {d:Option Nat}{x:Value}:mm G d ⟨t,h⟩ K Z (.pan x)=Z x ⟨ungd t,h⟩:=(rfl)
@[go_sem] theorem U4 {c:Option HCon}{np:Bool}{ids:List Nat}{d:Option Nat}:wa np ids d ⟨t,h⟩ K Z c none=yA ids d ⟨t,h⟩ K Z c:=(rfl)
@[go_sem] theorem Te {ids:List Nat}{d:Option Nat}{o:HCon}:yA ids d ⟨t,h⟩ K Z (some o)=(o.pre∧∀ r,o.post r→HK ids d ⟨t,h⟩ K Z (o.res r)):=(rfl)
@[go_sem] theorem W3 {ids:List Nat}{d:Option Nat}{x:Value}{h':List Ob}:HK ids d ⟨t,h⟩ K Z (.pan x h')=Z x ⟨ungd t,ny ids h.length h 0 h'⟩:=(rfl)
@[go_sem] theorem W4 {ids:List Nat}{d:Option Nat}{x:Value}{h':List Ob}{g:Nat×Bool}:FP ids g d ⟨t,h⟩ K Z (.pan x h')=Z x ⟨ungd t,ny ids h.length h 0 h'⟩:=(rfl)
@[go_sem] theorem U5 {c:Option HCon}{np:Bool}{ids:List Nat}{d:Option Nat}{g:Nat×Bool}:Br np ids ops g d ⟨t,h⟩ K Z c none=v_ ids ops g d ⟨t,h⟩ K Z c:=(rfl)
@[go_sem] theorem W5:jI G h nx .bad=some ⟨False,True,.any,[],[]⟩:=(rfl)
@[go_sem] theorem W6 {s:SV}:jI G h nx (.val s)=some ⟨True,True,s,[],[]⟩:=(rfl)
@[go_sem] theorem W7 {s:SV}{c:Prop}:jI G h nx (.chk c s)=some ⟨c,True,s,[],[]⟩:=(rfl)
@[go_sem] theorem W8 {s:SV}{c:Prop}:jI G h nx (.asm c s)=some ⟨True,c,s,[],[]⟩:=(rfl)
@[go_sem] theorem U6 {s:SV}:jI G h nx (.newr s)=some ⟨True,True,s,[],[]⟩:=(rfl)
@[go_sem] theorem W9 {s:SV}{c a:Prop}{ups:List Up}:jI G h nx (.eff c a ups s)=some ⟨c,a,s,ups,[]⟩:=(rfl)
@[go_sem] theorem U7 {f:FuncId}{args:List SV}:jI G h nx (.call f args)=drC (args.all (ca 3)) (args.flatMap (i6 h 6)) nx (G.p f (args.map (eY h 6))):=(rfl)
@[go_sem] theorem W_ {id:Nat}{args:List SV}:jI G h nx (.yld id args)=none:=(rfl)
@[go_sem] theorem Xa {x:Value}:jI G h nx (.pan x)=none:=(rfl)
@[go_sem] theorem Y7 {np:Bool}{rd:List Nat}{s:SV}{p:Prop}:drC np rd nx (some (.det p s))=drR np rd nx p s (aF 3 s):=(rfl)
@[go_sem] theorem Y8 {np:Bool}{rd:List Nat}{s:SV}{p:Prop}:drR np rd nx p s []=bif np||g8 3 s then some ⟨p,True,s,[],rd⟩else none:=(rfl)
@[go_sem] theorem Y9 {np:Bool}{rd:List Nat}{s:SV}{p:Prop}{ob:Ob}:drR np rd nx p s [ob]=bif np||g8 3 s then some ⟨p,True,ii 3 nx s,[(nx,ob)],rd⟩else none:=(rfl)
@[go_sem] theorem Y_ {np:Bool}{rd:List Nat}{s:SV}{p:Prop}{o1 o2:Ob}{l:List Ob}:drR np rd nx p s (o1::o2::l)=none:=(rfl)
@[go_sem] theorem Za {np:Bool}{rd:List Nat}{α:Type}{pre:Prop}{post:α→Prop}{out:α→SV}:drC np rd nx (some (.rel α pre post out))=none:=(rfl)
@[go_sem] theorem Zb {np:Bool}{rd:List Nat}{s:SV}{ok:Bool}{x:Value}:drC np rd nx (some (.may ok s x))=none:=(rfl)
@[go_sem] theorem Xb {np:Bool}{rd:List Nat}:drC np rd nx none=none:=(rfl)
@[go_sem] theorem U8 {b:Nat}{fps:List Fp}:so ops b fps=bif Bp fps then True else Rk ops b fps=true:=(rfl)
variable {g:Option (Nat×Bool)}
@[go_sem] theorem aaA {x:Operand}:val ⟨ts,ops,g,⟨t,h⟩,nx⟩ x=a8 ops g (raw t x):=(rfl)
variable {cx:Cx}{x y a b:Operand}{ty n f:Nat}
@[go_sem] theorem Xc:opS cx (.move x)=.val (val cx x):=(rfl)
@[go_sem] theorem Tf:opS cx (.assign x)=.val (val cx x):=(rfl)
@[go_sem] theorem Xd {c:Operand}:opS ⟨ts,ops,g,⟨t,h⟩,nx⟩ (.pick c a b)=Bg a b (a8 ops g (raw t c)) (ld ops g c true (raw t a)) (ld ops g c false (raw t b)):=(rfl)
@[go_sem] theorem U9:opS ⟨ts,ops,g,⟨t,h⟩,nx⟩ (.alloc ty)=az ts ty fun ti=>Ep nx (some ti.zero):=(rfl)
@[go_sem] theorem Zc:opS ⟨ts,ops,g,⟨t,h⟩,nx⟩ (.box ty x)=Ep nx (pO (a8 ops g (raw t x))):=(rfl)
@[go_sem] theorem U_ {parts:List (Nat×Operand)}:opS ⟨ts,ops,g,⟨t,h⟩,nx⟩ (.build ty parts.toArray)=az ts ty fun ti=>bif ti.isArr then az ts ti.elem fun te=>HH (ml (fun i=>some (i*te.size,te.size)) ti.zero (gR ⟨ts,ops,g,⟨t,h⟩,nx⟩ parts))else bif ti.agg then HH (ml (fun i=>(nth ti.fields i).map fun f=>(f.1,f.2.1)) ti.zero (gR ⟨ts,ops,g,⟨t,h⟩,nx⟩ parts))else .bad:=(rfl)
@[go_sem] theorem MU {parts:List (Nat×Operand)}:opS ⟨ts,ops,g,⟨t,h⟩,nx⟩ (.buildSlice ty n parts.toArray)=az ts ty fun ti=>az ts ti.elem fun te=>CV (CU ty ops g) nx te (bsS ti te n (gR ⟨ts,ops,g,⟨t,h⟩,nx⟩ parts)):=(rfl)
@[go_sem] theorem Xe:opS ⟨ts,ops,g,⟨t,h⟩,nx⟩ (.load ty a)=az ts ty fun ti=>qJ ti h (a8 ops g (raw t a)):=(rfl)
@[go_sem] theorem Va:opS ⟨ts,ops,g,⟨t,h⟩,nx⟩ (.store ty a x)=az ts ty fun ti=>rA ti.size nx h (a8 ops g (raw t a)) (a8 ops g (raw t x)):=(rfl)
@[go_sem] theorem PG:opS ⟨ts,ops,g,⟨t,h⟩,nx⟩ (.nilCheck x)=LU (a8 ops g (raw t x)):=(rfl)
@[go_sem] theorem Vb {op:BinOp}:opS ⟨ts,ops,g,⟨t,h⟩,nx⟩ (.binOp op ty x y n)=El ts op ty (a8 ops g (raw t x)) (a8 ops g (raw t y)):=(rfl)
@[go_sem] theorem Xf {op:UnOp}:opS ⟨ts,ops,g,⟨t,h⟩,nx⟩ (.unOp op ty x)=unS op (a8 ops g (raw t x)):=(rfl)
@[go_sem] theorem RM:opS ⟨ts,ops,g,⟨t,h⟩,nx⟩ (.convert n ty x)=az ts n fun _=>az ts ty fun ti=>FI ti.int (a8 ops g (raw t x)):=(rfl)
@[go_sem] theorem PH {fn:Fn}{first caps:List Operand}:opS cx (.makeFunc fn first.toArray caps.toArray)=FL fn (cA cx first) (cA cx caps):=(rfl)
def RN (k:SV):Option (Nat×Nat×Bool)→OR
 |some (o,n,_) =>bif Nat.ble 1 n then yw o k else .bad
 |none=>.bad
@[go_sem] theorem Tg {k:SV}{o n:Nat}{q:Bool}:RN k (some (o,n,q))=bif Nat.ble 1 n then yw o k else .bad:=(rfl)
@[go_sem] theorem OM:opS ⟨ts,ops,g,⟨t,h⟩,nx⟩ (.fieldAddr ty x f)=az ts ty fun ti=>RN (a8 ops g (raw t x)) (nth ti.fields f):=(rfl)
@[go_sem] theorem Vc:opS ⟨ts,ops,g,⟨t,h⟩,nx⟩ (.field ty x f)=az ts ty fun ti=>sj (nth ti.fields f) (yp (a8 ops g (raw t x))):=(rfl)
@[go_sem] theorem ON:opS ⟨ts,ops,g,⟨t,h⟩,nx⟩ (.indexAddr ty x y)=az ts ty fun ti=>az ts ti.elem fun te=>hU ti te.size h (a8 ops g (raw t x)) (a8 ops g (raw t y)):=(rfl)
@[go_sem] theorem Vd:opS ⟨ts,ops,g,⟨t,h⟩,nx⟩ (.panic x)=L4 (a8 ops g (raw t x)):=(rfl)
@[go_sem] theorem Jx:opS ⟨ts,ops,g,⟨t,h⟩,nx⟩ (.makeInterface ty x)=az ts ty fun ti=>bif ti.iface then .bad else Bk ty (a8 ops g (raw t x)):=(rfl)
@[go_sem] theorem MV {ok:Bool}:opS ⟨ts,ops,g,⟨t,h⟩,nx⟩ (.typeAssert x n ty ok)=az ts ty fun ti=>taS ty ok ti (a8 ops g (raw t x)):=(rfl)
@[go_sem] theorem RO:opS ⟨ts,ops,g,⟨t,h⟩,nx⟩ (.extract x n)=L2 n (a8 ops g (raw t x)):=(rfl)
@[go_sem] theorem OO:opS ⟨ts,ops,g,⟨t,h⟩,nx⟩ (.makeSlice ty x y)=az ts ty fun ti=>az ts ti.elem fun te=>bif ti.isSlice then(bif te.isSlice then az ts te.elem fun tr=>CW nx te tr (a8 ops g (raw t x)) (a8 ops g (raw t y))else mkS nx te (a8 ops g (raw t x)) (a8 ops g (raw t y)))else .bad:=(rfl)
@[go_sem] theorem Ve {lo hi:Option Operand}:opS ⟨ts,ops,g,⟨t,h⟩,nx⟩ (.slice ty x lo hi none)=az ts ty fun ti=>az ts ti.elem fun te=>nI ti te.size nx h (o6 ⟨ts,ops,g,⟨t,h⟩,nx⟩ lo) (o6 ⟨ts,ops,g,⟨t,h⟩,nx⟩ hi) (Dn hi&&FK ops) (a8 ops g (raw t x)):=(rfl)
@[go_sem] theorem Xg {lo hi:Option Operand}{m:Operand}:opS ⟨ts,ops,g,⟨t,h⟩,nx⟩ (.slice ty x lo hi (some m))=az ts ty fun ti=>az ts ti.elem fun _=>Dm ti (o6 ⟨ts,ops,g,⟨t,h⟩,nx⟩ lo) (o6 ⟨ts,ops,g,⟨t,h⟩,nx⟩ hi) (a8 ops g (raw t m)) (a8 ops g (raw t x)):=(rfl)
@[go_sem] theorem RP:opS ⟨ts,ops,g,⟨t,h⟩,nx⟩ (.makeMap ty none)=az ts ty fun ti=>mmR nx ti.mkt ti.mvt:=(rfl)
@[go_sem] theorem Th {ok:Bool}:opS ⟨ts,ops,g,⟨t,h⟩,nx⟩ (.lookup ty x y ok)=az ts ty fun ti=>tf ti h ok (a8 ops g (raw t y)) (a8 ops g (raw t x)):=(rfl)
@[go_sem] theorem OP:opS ⟨ts,ops,g,⟨t,h⟩,nx⟩ (.mapUpdate ty x y a)=az ts ty fun ti=>Az ti h (a8 ops g (raw t y)) (a8 ops g (raw t a)) (a8 ops g (raw t x)):=(rfl)
@[go_sem] theorem Ti:opS ⟨ts,ops,g,⟨t,h⟩,nx⟩ (.insert ty x y a)=az ts ty fun ti=>Az ti h (a8 ops g (raw t y)) (a8 ops g (raw t a)) (a8 ops g (raw t x)):=(rfl)
@[go_sem] theorem PI:opS ⟨ts,ops,g,⟨t,h⟩,nx⟩ (.mapEntry ty x y)=az ts ty fun ti=>xl ti nx h (a8 ops g (raw t y)) (a8 ops g (raw t x)):=(rfl)
@[go_sem] theorem MW:opS ⟨ts,ops,g,⟨t,h⟩,nx⟩ (.entryStore ty x y a)=az ts ty fun ti=>Et ti h (a8 ops g (raw t a)) (a8 ops g (raw t x)) (a8 ops g (raw t y)):=(rfl)
@[go_sem] theorem Xh {args:List Operand}{tys:Array TypeId}:opS ⟨ts,ops,g,⟨t,h⟩,nx⟩ (.call ⟨.value x,args.toArray,tys⟩)=yx (cA ⟨ts,ops,g,⟨t,h⟩,nx⟩ args) (a8 ops g (raw t x)):=(rfl)
@[go_sem] theorem Zd {args:List Operand}:opS ⟨ts,ops,g,⟨t,h⟩,nx⟩ (.call ⟨.builtin .len,args.toArray,[ty].toArray⟩)=az ts ty fun ti=>uj ti h (cA ⟨ts,ops,g,⟨t,h⟩,nx⟩ args):=(rfl)
@[go_sem] theorem Tj {args:List Operand}:opS ⟨ts,ops,g,⟨t,h⟩,nx⟩ (.call ⟨.builtin .append,args.toArray,[ty,n].toArray⟩)=az ts ty fun ti=>az ts n fun ti2=>az ts ti.elem fun te=>bif ti.isSlice&&ti2.isSlice then nH te nx h (cA ⟨ts,ops,g,⟨t,h⟩,nx⟩ args)else .bad:=(rfl)
@[go_sem] theorem Tk {args:List Operand}{tys:List TypeId}:opS ⟨ts,ops,g,⟨t,h⟩,nx⟩ (.call ⟨.builtin .delete,args.toArray,(ty::tys).toArray⟩)=az ts ty fun ti=>xQ ti h (cA ⟨ts,ops,g,⟨t,h⟩,nx⟩ args):=(rfl)
@[go_sem] theorem Vf {args:List Operand}:opS ⟨ts,ops,g,⟨t,h⟩,nx⟩ (.call ⟨.builtin .clear,args.toArray,[ty].toArray⟩)=az ts ty fun ti=>az ts ti.elem fun te=>xP ti te h (cA ⟨ts,ops,g,⟨t,h⟩,nx⟩ args):=(rfl)
@[go_sem] theorem Ze {args:List Operand}{tys:Array TypeId}:opS cx (.call ⟨.builtin .min,args.toArray,tys⟩)=Er (cA cx args):=(rfl)
@[go_sem] theorem Zf {args:List Operand}{tys:Array TypeId}:opS cx (.call ⟨.builtin .max,args.toArray,tys⟩)=Es (cA cx args):=(rfl)
@[go_sem] theorem Vg:opS ⟨ts,ops,g,⟨t,h⟩,nx⟩ (.range ty x)=az ts ty fun ti=>Bo ti nx h (a8 ops g (raw t x)):=(rfl)
@[go_sem] theorem Xi:opS ⟨ts,ops,g,⟨t,h⟩,nx⟩ (.next x false)=Mb (a8 ops g (raw t x)):=(rfl)
@[go_sem] theorem Vh:opS ⟨ts,ops,g,⟨t,h⟩,nx⟩ (.entry x)=Ad h (a8 ops g (raw t x)):=(rfl)
@[go_sem] theorem Vi:fpO ⟨ts,ops,g,⟨t,h⟩,nx⟩ (.range ty x)=(fN (a8 ops g (raw t x)),[]):=(rfl)
@[go_sem] theorem Xj {s:Bool}:fpO cx (.next x s)=([],[]):=(rfl)
@[go_sem] theorem Vj:fpO ⟨ts,ops,g,⟨t,h⟩,nx⟩ (.entry x)=(fN (a8 ops g (raw t x))++Me h (a8 ops g (raw t x)),[]):=(rfl)
@[go_sem] theorem Xk:fpO ⟨ts,ops,g,⟨t,h⟩,nx⟩ (.load ty a)=(fN (a8 ops g (raw t a)),[]):=(rfl)
@[go_sem] theorem Vk:fpO ⟨ts,ops,g,⟨t,h⟩,nx⟩ (.store ty a x)=(fN (a8 ops g (raw t a))++fN (a8 ops g (raw t x)),[]):=(rfl)
@[go_sem] theorem OQ:fpO ⟨ts,ops,g,⟨t,h⟩,nx⟩ (.indexAddr ty x y)=(fN (a8 ops g (raw t x)),[]):=(rfl)
@[go_sem] theorem Vl {lo hi mx:Option Operand}:fpO ⟨ts,ops,g,⟨t,h⟩,nx⟩ (.slice ty x lo hi mx)=(fN (a8 ops g (raw t x)),[]):=(rfl)
@[go_sem] theorem Tl {ok:Bool}:fpO ⟨ts,ops,g,⟨t,h⟩,nx⟩ (.lookup ty x y ok)=bif ok then(fN (a8 ops g (raw t x)),[])else([],fN (a8 ops g (raw t x))):=(rfl)
@[go_sem] theorem OS:fpO ⟨ts,ops,g,⟨t,h⟩,nx⟩ (.mapUpdate ty x y a)=(fN (a8 ops g (raw t x)),[]):=(rfl)
@[go_sem] theorem Tm:fpO ⟨ts,ops,g,⟨t,h⟩,nx⟩ (.insert ty x y a)=(fN (a8 ops g (raw t x)),[]):=(rfl)
@[go_sem] theorem PJ:fpO ⟨ts,ops,g,⟨t,h⟩,nx⟩ (.mapEntry ty x y)=(fN (a8 ops g (raw t x)),[]):=(rfl)
@[go_sem] theorem MX:fpO ⟨ts,ops,g,⟨t,h⟩,nx⟩ (.entryStore ty x y a)=(fN (a8 ops g (raw t x)),[]):=(rfl)
@[go_sem] theorem Zg {args:List Operand}{tys:Array TypeId}:fpO ⟨ts,ops,g,⟨t,h⟩,nx⟩ (.call ⟨.builtin .len,args.toArray,tys⟩)=(pP (cA ⟨ts,ops,g,⟨t,h⟩,nx⟩ args),[]):=(rfl)
@[go_sem] theorem Tn {args:List Operand}{tys:Array TypeId}:fpO ⟨ts,ops,g,⟨t,h⟩,nx⟩ (.call ⟨.builtin .append,args.toArray,tys⟩)=(pP (cA ⟨ts,ops,g,⟨t,h⟩,nx⟩ args),[]):=(rfl)
@[go_sem] theorem To {args:List Operand}{tys:Array TypeId}:fpO ⟨ts,ops,g,⟨t,h⟩,nx⟩ (.call ⟨.builtin .delete,args.toArray,tys⟩)=(pP (cA ⟨ts,ops,g,⟨t,h⟩,nx⟩ args),[]):=(rfl)
@[go_sem] theorem Vm {args:List Operand}{tys:Array TypeId}:fpO ⟨ts,ops,g,⟨t,h⟩,nx⟩ (.call ⟨.builtin .clear,args.toArray,tys⟩)=(pP (cA ⟨ts,ops,g,⟨t,h⟩,nx⟩ args),[]):=(rfl)
@[go_sem] theorem Xl:fpO cx (.move x)=([],[]):=(rfl)
@[go_sem] theorem Tp:fpO cx (.assign x)=([],[]):=(rfl)
@[go_sem] theorem Xm:fpO cx (.pick x a b)=([],[]):=(rfl)
@[go_sem] theorem Vn:fpO cx (.alloc ty)=([],[]):=(rfl)
@[go_sem] theorem Zh:fpO cx (.box ty x)=([],[]):=(rfl)
@[go_sem] theorem Vo {parts:Array (Nat×Operand)}:fpO cx (.build ty parts)=([],[]):=(rfl)
@[go_sem] theorem MY {parts:Array (Nat×Operand)}:fpO cx (.buildSlice ty n parts)=([],[]):=(rfl)
@[go_sem] theorem PK:fpO cx (.nilCheck x)=([],[]):=(rfl)
@[go_sem] theorem Vp {op:BinOp}:fpO cx (.binOp op ty x y n)=([],[]):=(rfl)
@[go_sem] theorem Xn {op:UnOp}:fpO cx (.unOp op ty x)=([],[]):=(rfl)
@[go_sem] theorem RQ:fpO cx (.convert n ty x)=([],[]):=(rfl)
@[go_sem] theorem PL {fn:Fn}{first caps:Array Operand}:fpO cx (.makeFunc fn first caps)=([],[]):=(rfl)
@[go_sem] theorem OT:fpO cx (.fieldAddr ty x f)=([],[]):=(rfl)
@[go_sem] theorem Vq:fpO cx (.field ty x f)=([],[]):=(rfl)
@[go_sem] theorem Vr:fpO cx (.panic x)=([],[]):=(rfl)
@[go_sem] theorem Jy:fpO cx (.makeInterface ty x)=([],[]):=(rfl)
@[go_sem] theorem MZ {ok:Bool}:fpO cx (.typeAssert x n ty ok)=([],[]):=(rfl)
@[go_sem] theorem RR:fpO cx (.extract x n)=([],[]):=(rfl)
@[go_sem] theorem OU:fpO cx (.makeSlice ty x y)=([],[]):=(rfl)
@[go_sem] theorem RS {o:Option Operand}:fpO cx (.makeMap ty o)=([],[]):=(rfl)
@[go_sem] theorem Xo {args:Array Operand}{tys:Array TypeId}:fpO cx (.call ⟨.value x,args,tys⟩)=([],[]):=(rfl)
@[go_sem] theorem Zi {args:Array Operand}{tys:Array TypeId}:fpO cx (.call ⟨.builtin .min,args,tys⟩)=([],[]):=(rfl)
@[go_sem] theorem Zj {args:Array Operand}{tys:Array TypeId}:fpO cx (.call ⟨.builtin .max,args,tys⟩)=([],[]):=(rfl)
@[go_sem] theorem Vs {k:TI→OR}:az ts ty k=It k (ts ty):=by unfold az It;cases ts ty <;>rfl
@[go_sem] theorem Tq {k:TI→OR}{i:TI}:It k (some i)=k i:=(rfl)
@[go_sem] theorem RT {c:Operand}{j:Nat}{w want:Bool}{s:SV}:ld ops g c want (.gd j w s)=bif zp w want&&Dl ops j c then s else a8 ops g (.gd j w s):=(rfl)
@[go_sem] theorem PM {c:Operand}{want:Bool}:ld ops g c want .any=.any:=(rfl)
@[go_sem] theorem Tr {c:Operand}{want:Bool}{v:Value}:ld ops g c want (.v v)=.v v:=(rfl)
@[go_sem] theorem Zk {a b:Operand}{x y z:Bool}:Bg a b (.v (.bool x)) (.v (.bool y)) (.v (.bool z))=bif isTrue a then .val (.b (x||z))else bif isFalse b then .val (.b (x&&y))else .bad:=(rfl)
@[go_sem] theorem Zl {a b:Operand}{x z:Bool}:Bg a b (.v (.bool x)) .any (.v (.bool z))=.chk (x=false) (.b z):=(rfl)
@[go_sem] theorem Zm {a b:Operand}{x y:Bool}:Bg a b (.v (.bool x)) (.v (.bool y)) .any=.chk (x=true) (.b y):=(rfl)
@[go_sem] theorem Vt {st:St}:wc ops st=cleanF (bif ops.any (·.guard.isSome)then ⟨ungd st.t,st.h⟩else st):=(rfl)
@[go_sem] theorem Vu {t:List (Nat×SV)}{h:List Ob}:cleanF ⟨t,h⟩=bif lE h then ⟨HM h t,xv h⟩else ⟨t,h⟩:=(rfl)
@[go_sem] theorem Zn {n:Nat}:raw t (.tmp n)=lk n t:=(rfl)
@[go_sem] theorem Vv {x:Value}:raw t (.const x)=.v x:=(rfl)
@[go_sem] theorem Xp {f:FuncId}:raw t (.func f)=.fn f [] []:=(rfl)
@[go_sem] theorem aaB {n:Nat}{s:SV}{r:List (Nat×SV)}:lk n ((n,s)::r)=s:=by simp[lk]
@[go_sem] theorem Zo {n a:Nat}{s:SV}{r:List (Nat×SV)}:lk n ((a,s)::r)=bif Nat.beq a n then s else lk n r:=(rfl)
@[go_sem] theorem aaC {n:Nat}:lk n []=.any:=(rfl)
@[go_sem] theorem Zp {x:Value}:a8 ops g (.v x)=(.v x):=(rfl)
@[go_sem] theorem Vw:a8 ops g .any=.any:=(rfl)
@[go_sem] theorem Vx {a b:Nat}:a8 ops g (.ptr a b)=(.ptr a b):=(rfl)
@[go_sem] theorem Xq {a:Nat}:a8 ops g (.os a)=(.os a):=(rfl)
@[go_sem] theorem Xr {a b:Nat}{c d:Int}:a8 ops g (.vw a b c d)=(.vw a b c d):=(rfl)
@[go_sem] theorem Xs:a8 ops g .e0=.e0:=(rfl)
@[go_sem] theorem Xt {a b d:Nat}{c:Int}:a8 ops g (.rp a b c d)=(.rp a b c d):=(rfl)
@[go_sem] theorem Xu {a:Nat}{i:Int}:a8 ops g (.gr a i)=(.gr a i):=(rfl)
@[go_sem] theorem Xv {a b d:Nat}{i j:Int}:a8 ops g (.gp a b i j d)=(.gp a b i j d):=(rfl)
@[go_sem] theorem Xw {a:List SV}{b:Nat}:a8 ops g (.ep a b)=(.ep a b):=(rfl)
@[go_sem] theorem Xx {k:Tag}{l:List k.T}:a8 ops g (.rs k l)=(.rs k l):=(rfl)
@[go_sem] theorem Xy {l:List SV}:a8 ops g (.ls l)=(.ls l):=(rfl)
@[go_sem] theorem Xz {k k2:Tag}{l:List (k.T×k2.T)}:a8 ops g (.rm k k2 l)=(.rm k k2 l):=(rfl)
@[go_sem] theorem Vy {l:List SV}:a8 ops g (.agg l)=(.agg l):=(rfl)
@[go_sem] theorem Vz {l:List SV}:a8 ops g (.tup l)=(.tup l):=(rfl)
@[go_sem] theorem XA {f:FuncId}{l m:List SV}:a8 ops g (.fn f l m)=(.fn f l m):=(rfl)
@[go_sem] theorem XB {j:Nat}{b:Bool}{s:SV}:a8 ops g (.gd j b s)=bif qy ops ops.length g j b then s else .any:=(rfl)
end
section
variable {ti te:TI}{esz nx id id2 off:Nat}{h:List Ob}{k k2:Tag}{i j n c:Int}{kk kj:IntKind}{lo hi:Option SV}{key s:SV}{ok:Bool}{ts:Tis}{op:BinOp}{ty:Nat}
@[go_sem] theorem one_1 {α:Type}{x:α}:one [x]=true:=(rfl)
@[go_sem] theorem one_2 {α:Type}{x y:α}{l:List α}:one (x::y::l)=false:=(rfl)
@[go_sem] theorem Zq {g:Option (Nat×Bool)}{l:List k.T}:CV g nx te (.newr (.rs k l))=bif(te.agg||one l)&&noG g then .eff True True [(nx,.row k l)] (.os nx)else .newr (.rs k l):=(rfl)
@[go_sem] theorem Zr {g:Option (Nat×Bool)}{l:List SV}:CV g nx te (.newr (.ls l))=.newr (.ls l):=(rfl)
@[go_sem] theorem Zs {g:Option (Nat×Bool)}:CV g nx te (.newr .e0)=.newr .e0:=(rfl)
@[go_sem] theorem XC {a b:Int}:El ts op ty (.v (.int kk a)) (.v (.int kj b))=bif yr op kk kj then uh op kk a b else .bad:=(rfl)
@[go_sem] theorem Zt {l:List k.T}:El ts op ty (.rs k l) (.v (.slice none 0 0))=az ts ty fun ti=>bif ti.isSlice then O0 op (l=[])else .bad:=(rfl)
@[go_sem] theorem XD {a b:ByteArray}:El ts op ty (.v (.string a)) (.v (.string b))=az ts ty fun ti=>bif Nat.beq ti.sc 2 then I4 op a b else .bad:=(rfl)
@[go_sem] theorem VA {a b:Bool}:El ts op ty (.v (.bool a)) (.v (.bool b))=az ts ty fun ti=>bif Nat.beq ti.sc 3 then Ek op a b else .bad:=(rfl)
@[go_sem] theorem XE {a b:List SV}:El ts op ty (.agg a) (.agg b)=az ts ty fun ti=>eqT op a b ti:=(rfl)
@[go_sem] theorem VB {l:List k.T}:hU ti esz h (.rs k l) (.v (.int kk i))=bif ti.isSlice&&Nat.beq esz (aa k)then .chk (0≤i∧i< (l.length:Int)) (.ep (cellsOf k (l.getD i.toNat (ff k))) 0)else .bad:=(rfl)
@[go_sem] theorem VC:hU ti esz h (.os id) (.v (.int kk i))=bif ti.isSlice then Bi esz id i (aj h id)else .bad:=(rfl)
@[go_sem] theorem VD:hU ti esz h (.gr id i) (.v (.int kk j))=bif ti.isSlice then Em esz id i j (aj h id)else .bad:=(rfl)
@[go_sem] theorem VE {l:List SV}:hU ti esz h (.ls l) (.v (.int kk i))=bif ti.isSlice&&Nat.beq esz 1 then HA i (nth l i.toNat)else .bad:=(rfl)
@[go_sem] theorem Ts:hU ti esz h (.ptr id off) (.v (.int kk i))=bif ti.isArr then .chk (0≤i∧i< (ti.len:Int)) (.ptr id (off+i.toNat*esz))else .bad:=(rfl)
@[go_sem] theorem VF {l:List SV}:hU ti esz h (.ep l off) (.v (.int kk i))=bif ti.isArr then .chk (0≤i∧i< (ti.len:Int)) (.ep l (off+i.toNat*esz))else .bad:=(rfl)
@[go_sem] theorem VG {z:Nat}:hU ti esz h (.rp z id i off) (.v (.int kk j))=bif ti.isArr then .chk (0≤j∧j< (ti.len:Int)) (.rp z id i (off+j.toNat*esz))else .bad:=(rfl)
@[go_sem] theorem Zu {l:List k.T}:uj ti h [.rs k l]=bif ti.isSlice then .asm (l.length≤aL) (.i l.length)else .bad:=(rfl)
@[go_sem] theorem XF:uj ti h [.v (.slice none 0 0)]=bif ti.isSlice then .val (.i 0)else .bad:=(rfl)
@[go_sem] theorem Zv:uj ti h [.e0]=bif ti.isSlice then .val (.i 0)else .bad:=(rfl)
@[go_sem] theorem Zw:uj ti h [.os id]=bif ti.isSlice then L3 (aj h id)else O3 ti.mkt (aj h id):=(rfl)
@[go_sem] theorem Zx:uj ti h [.gr id i]=bif ti.isSlice then O2 i (aj h id)else .bad:=(rfl)
@[go_sem] theorem Zy {l:List SV}:uj ti h [.ls l]=bif ti.isSlice then .val (.i (sz l))else .bad:=(rfl)
@[go_sem] theorem VH:Dm ti none (some (.v (.int .i64 0))) (.v (.int .i64 0)) (.v (.slice none 0 0))=bif ti.isSlice then .val (.v (.slice none 0 0))else .bad:=(rfl)
@[go_sem] theorem VI {l:List k.T}{vq:Bool}:nI ti esz nx h lo hi vq (.rs k l)=bif ti.isSlice&&Nat.beq esz (aa k)then L9 k l (bnd 0 lo) (bnd l.length hi)else .bad:=(rfl)
@[go_sem] theorem VJ {vq:Bool}:nI ti esz nx h lo hi vq (.os id)=bif ti.isSlice then(bif vq then I9 esz id lo (aj h id)else L_ esz id nx lo hi (aj h id))else .bad:=(rfl)
@[go_sem] theorem Tt {n:Nat}{a:Int}:Ma esz id n (some a)=.chk (0≤a∧a≤(n:Int)) (.vw esz id a n):=(rfl)
@[go_sem] theorem XG {d:Int}:bnd d none=some d:=(rfl)
@[go_sem] theorem XH {d:Int}:bnd d (some (.v (.int kk n)))=some n:=(rfl)
@[go_sem] theorem VK {l:List k.T}{a b:Int}:L9 k l (some a) (some b)=.chk (0≤a∧a≤b∧b≤(l.length:Int)) (.rs k ((l.take b.toNat).drop a.toNat)):=(rfl)
@[go_sem] theorem VL {l:List k.T}{a b:Int}:O6 id nx k l (some a) (some b)=.eff (0≤a∧a≤b∧b≤(l.length:Int)) True [(id,.dead),(nx,.row k ((l.take b.toNat).drop a.toNat))] (.os nx):=(rfl)
@[go_sem] theorem Zz:mkS nx te (.v (.int .i64 n)) (.v (.int .i64 c))=mkT nx n c te te.tag:=(rfl)
@[go_sem] theorem ZA:nH te nx h [.os id,.ls [.os id2]]=bif Nat.beq te.size 1&&Nat.beq (sz te.zero) 1&&Nat.ble 1 te.bytes&& !(Nat.beq id id2)then Ac nx te.bytes h id2 [(id,.dead)] (aj h id)else .bad:=(rfl)
@[go_sem] theorem ZB:nH te nx h [.v (.slice none 0 0),.ls [.os id2]]=bif Nat.beq te.size 1&&Nat.beq (sz te.zero) 1&&Nat.ble 1 te.bytes then L6 nx te.bytes id2 (aj h id2)else .bad:=(rfl)
@[go_sem] theorem VM {l:List k.T}:nH te nx h [.os id,(.rs k l)]=uT te nx [(id,.dead)] h (.rs k l) (aj h id):=(rfl)
@[go_sem] theorem VN {l:List k.T}:nH te nx h [.v (.slice none 0 0),(.rs k l)]=uU te nx h (.rs k l) te.tag:=(rfl)
@[go_sem] theorem VO {l:List k.T}:nH te nx h [.e0,(.rs k l)]=uU te nx h (.rs k l) te.tag:=(rfl)
@[go_sem] theorem Tu:nH te nx h [.os id,(.v (.slice none 0 0))]=uT te nx [(id,.dead)] h (.v (.slice none 0 0)) (aj h id):=(rfl)
@[go_sem] theorem Tv:nH te nx h [.v (.slice none 0 0),(.v (.slice none 0 0))]=uU te nx h (.v (.slice none 0 0)) te.tag:=(rfl)
@[go_sem] theorem Tw:nH te nx h [.e0,(.v (.slice none 0 0))]=uU te nx h (.v (.slice none 0 0)) te.tag:=(rfl)
@[go_sem] theorem VP:nH te nx h [.os id,.e0]=uT te nx [(id,.dead)] h .e0 (aj h id):=(rfl)
@[go_sem] theorem VQ:nH te nx h [.v (.slice none 0 0),.e0]=uU te nx h .e0 te.tag:=(rfl)
@[go_sem] theorem VR:nH te nx h [.e0,.e0]=uU te nx h .e0 te.tag:=(rfl)
@[go_sem] theorem VS {s:Nat}{lo hi:Int}:nH te nx h [.os id,(.vw s id2 lo hi)]=uT te nx [(id,.dead)] h (.vw s id2 lo hi) (aj h id):=(rfl)
@[go_sem] theorem VT {s:Nat}{lo hi:Int}:nH te nx h [.v (.slice none 0 0),(.vw s id2 lo hi)]=uU te nx h (.vw s id2 lo hi) te.tag:=(rfl)
@[go_sem] theorem VU {s:Nat}{lo hi:Int}:nH te nx h [.e0,(.vw s id2 lo hi)]=uU te nx h (.vw s id2 lo hi) te.tag:=(rfl)
@[go_sem] theorem VV:nH te nx h [.os id,(.os id2)]=bif Nat.beq id id2 then L7 te id (aj h id)else uT te nx [(id,.dead)] h (.os id2) (aj h id):=(rfl)
@[go_sem] theorem XI {l:List k.T}:L7 te id (.row k l)=bif Nat.beq te.size (aa k)&&Nat.beq (sz te.zero) te.size&&Nat.ble 1 te.bytes then .eff ((l++l).length*te.bytes≤cU) ((l++l).length≤aL) [(id,.fz k l)] (.rs k (l++l))else .bad:=(rfl)
@[go_sem] theorem VW:nH te nx h [.v (.slice none 0 0),(.os id2)]=uU te nx h (.os id2) te.tag:=(rfl)
@[go_sem] theorem VX:nH te nx h [.e0,(.os id2)]=uU te nx h (.os id2) te.tag:=(rfl)
@[go_sem] theorem Tx {l:List k.T}:yy k k l=some l:=by simp[yy]
@[go_sem] theorem ZC {l:List k2.T}:v8 k h (.rs k2 l)=yy k k2 l:=(rfl)
@[go_sem] theorem XJ:v8 k h (.v (.slice none 0 0))=some []:=(rfl)
@[go_sem] theorem ZD:v8 k h .e0=some []:=(rfl)
@[go_sem] theorem ZE:v8 k h (.os id)=Kx k (aj h id):=(rfl)
@[go_sem] theorem ZF {s:Nat}{lo hi:Int}:v8 k h (.vw s id lo hi)=O4 k s lo hi (aj h id):=(rfl)
@[go_sem] theorem XK:tf ti h ok key (.os id)=FM ti key ok (aj h id):=(rfl)
@[go_sem] theorem XL {l:List (k.T×k2.T)}:tf ti h ok key (.rm k k2 l)=bif kp k ti.mkt&&kp k2 ti.mvt then Bn k k2 l ok (unT k key)else .bad:=(rfl)
@[go_sem] theorem VY:tf ti h ok key (.v (.map none))=I_ key ok ti.mkt ti.mvt:=(rfl)
@[go_sem] theorem ZG {v:SV}:Et ti h v (.os id) (.os id2)=O7 ti id id2 v (aj h id):=(rfl)
@[go_sem] theorem XM:zr (.v (.int kk n))=some [(.v (.int kk n))]:=(rfl)
@[go_sem] theorem XN {b:ByteArray}:zr (.v (.string b))=some [.v (.string b)]:=(rfl)
@[go_sem] theorem VZ {b:Bool}:zr (.v (.bool b))=some [.v (.bool b)]:=(rfl)
@[go_sem] theorem ZH {l:List k.T}:zr (.rs k l)=some [.rs k l]:=(rfl)
@[go_sem] theorem ZI {l:List (k.T×k2.T)}:zr (.rm k k2 l)=some [.rm k k2 l]:=(rfl)
@[go_sem] theorem ZJ:zr .e0=some [.e0]:=(rfl)
@[go_sem] theorem XO:zr (.v (.slice none 0 0))=some [.v (.slice none 0 0)]:=(rfl)
@[go_sem] theorem V0:zr (.v (.map none))=some [.v (.map none)]:=(rfl)
@[go_sem] theorem V1 {t':TypeId}{y:Value}:taS ty ok ti (.v (.iface t' y))=bif ti.iface then .bad else bif Nat.beq t' ty then(bif ok then .val (.tup [.v y,.b true])else .val (.v y))else .bad:=(rfl)
end
@[go_sem] theorem nbeq (a b:Nat):Nat.beq a b=(a==b):=by
 rw[Bool.eq_iff_iff];simp
@[go_sem] theorem nble (a b:Nat):Nat.ble a b=decide (a≤b):=by
 rw[Bool.eq_iff_iff];simp
@[go_sem] theorem nblt (a b:Nat):Nat.blt a b=decide (a<b):=by
 rw[Bool.eq_iff_iff];simp[Nat.blt];omega
section
variable {σ:Type}{D:σ→St}{I:σ→Prop}{m:σ→Nat}{x:σ}{id n0:Nat}{Q:Ex→St→Prop}{st:St}{rs:List ResultVar}{post:SV→Prop}{ts:Tis}{pp:Value→Prop}{C:HCon}{md:Bool}
@[go_sem] theorem OV:uY D I m n0 x id Q .normal st= ∃ y js,I y∧m y<m x∧n0≤(D y).h.length∧Sub js n0 st (D y):=(rfl)
@[go_sem] theorem RU {j:Nat}:uY D I m n0 x id Q (.exit j) st=bif Nat.beq j id then Q .normal st else Q (.exit j) st:=(rfl)
@[go_sem] theorem Tz:uY D I m n0 x id Q .ret st=Q .ret st:=(rfl)
@[go_sem] theorem TA {v:Value}:uY D I m n0 x id Q (.pan v) st=Q (.pan v) st:=(rfl)
@[go_sem] theorem OW {s:SV}:ee post (some s)=post s:=(rfl)
@[go_sem] theorem V2:FU md rs ts post pp .ret st=ee post (xS md rs ts st):=(rfl)
@[go_sem] theorem PN:FU md rs ts post pp .normal st=ee post (xS md rs ts st):=(rfl)
@[go_sem] theorem V3 {x:Value}:FU md rs ts post pp (.pan x) st=pp x:=(rfl)
@[go_sem] theorem PO:FV n0 rs ts C .normal st=yB n0 C (ku (ju ts st rs)) st.h:=(rfl)
@[go_sem] theorem V4:FV n0 rs ts C .ret st=yB n0 C (ku (ju ts st rs)) st.h:=(rfl)
@[go_sem] theorem V5 {v:Value}:FV n0 rs ts C (.pan v) st= ∃ r h' js,C.post r∧C.res r=.pan v h'∧n0≤h'.length∧Sub js n0 ⟨[],st.h⟩ ⟨[],h'⟩:=(rfl)
@[go_sem] theorem TB {s:SV}{h:List Ob}:yB n0 C (some s) h= ∃ r s' h' js,C.post r∧C.res r=.ret s' h'∧n0≤h'.length∧Sub js n0 ⟨[(0,s)],h⟩ ⟨[(0,s')],h'⟩:=(rfl)
@[go_sem] theorem aaD {js:List Nat}{t t2:List (Nat×SV)}{h h2:List Ob}:Sub js n0 ⟨t,h⟩ ⟨t2,h2⟩=((uniq (nf js h2)=true∧xT 0 js n0=true∧js.all (fun j=>Nat.blt j h.length)=true)∧KE (AB js) h2.length t t2∧CX (AB js) h2.length h js h2):=(rfl)
end
attribute [go_sem] decide_true decide_false cond_true cond_false List.any_cons List.any_nil Option.isSome_none Option.isSome_some Bool.or_false Bool.false_or Bool.or_true Bool.true_or Bool.and_true Bool.true_and Bool.and_false Bool.false_and Bool.not_true Bool.not_false List.length_cons List.length_nil List.map_cons List.map_nil List.flatMap_cons List.flatMap_nil List.append_nil List.isEmpty_nil List.isEmpty_cons Option.map_some Option.map_none Option.bind_some Option.getD_some Option.getD_none Option.toList_some Option.toList_none List.cons_append List.nil_append Nat.zero_add Nat.add_zero Nat.zero_mul Nat.mul_one Nat.one_mul
 qy zp nth Dl uh yr O0 I4 Ek eqV xO eqL eqO eqT Sg kN yp unS ui qJ yu Bh zt yw Bi Em HA ml rQ Ay sj HC En HD HE HF rz rA Bj LS Eo CW O5 L8 lE Jd xv Su HM Mi Ss LU FI Ep HH LV lsS bsT bsU WL osL osV L1 O1 Rj bsG bsS noG L2 yx L3 O3 O2 Er Es L4 Bk FL Kx O4 I9 L5 uT Bl Ac L6 uU mkT L_ Bn kp Dn noE FM I_ Sn So Az Ky Kz xl Sp O7 Sq Sr xQ Sm xP I8 mmR zsO svT Ab unT o7 WD
 cV f6 uV O9 Jc Mf frz O_ KA eY ungd ca g8 aF rB ii fq Mg reach AA xm yz ren uW HJ inN r5 rR kx ny aj bf aR eT fN Eu pP i6 KB tg WG WH LW I5 LX WI Si HI I6 FJ LY Sj FK WJ Sk LZ Sl WK I7 Ri CU fpU Bp pO cut FG sz rv Bf gQ cellsOf o8 uf dX fit ue toI toB toS toF fnV zm A7 A8 zn A9 lW A_ Df xr Ba sh Fy Fz Dg I0 lD Bb FA td FB yn Dh FC rO vY Di Dj Bc Dk pZ I1 uR vZ
 at0 mkE FD xk zo bv ym ff aa isTrue isFalse cA gR o6 Pb KC FR ju ku WO wd we xx Af Rl uX uniq KD xS O8 Bo Mb Mc Ja Ad Me Md Option.bind_some HB uS List.all_cons List.all_nil rank Fx KE CX Ey FT wkL Bv unp cF vC nA nf xT AB
end Go.Sx
end
section
namespace Go.Sx
open IntKind (i64)
open Go.RowKit
universe u
variable {P:Program}
theorem Tis.ok_leaf {n:Nat}{x:TI}(h:cy P n=some x):Tis.ok (fun t=>bif Nat.beq t n then some x else none) P:=fun t i hi=>by
 change (bif Nat.beq t n then some x else none)=some i at hi;cases hb:Nat.beq t n with
 |false=>rw[hb]at hi;cases hi
 |true=>rw[hb]at hi;cases hi;rw[Nat.eq_of_beq_eq_true hb];exact h
theorem Tis.ok_node {n:Nat}{f g:Tis}(hf:Tis.ok f P)(hg:Tis.ok g P):Tis.ok (fun t=>bif Nat.ble t n then f t else g t) P:=fun t i hi=>by
 change (bif Nat.ble t n then f t else g t)=some i at hi;cases hb:Nat.ble t n with
 |false=>rw[hb]at hi;exact hg t i hi
 |true=>rw[hb]at hi;exact hf t i hi
def ae (f:Func):Code:=match f.body with|some c=>c|none=>.skip
def L0:uk:=fun _ _=>none
@[go_sem] theorem ZK {n:Nat}{st:St}:L0 n st=none:=(rfl)
def mkP:List (Nat×(List SV→Option Con))→FuncId→List SV→Option Con
 | [],_,_=>none
 |(n,C)::r,f,l=>bif Nat.beq n f then C l else mkP r f l
def mkO:List (Nat×(List SV→List Ob→Option HCon))→FuncId→List SV→List Ob→Option HCon
 | [],_,_,_=>none
 |(n,C)::r,f,l,h=>bif Nat.beq n f then C l h else mkO r f l h
theorem Iu:∀ (ps:List (Nat×(List SV→Option Con))),(∀ x∈ps,FnOk P x.1 x.2)→∀ f,FnOk P f (mkP ps f)
 | [],_,f=>⟨fun l c h=>(by cases h),fun l c h=>(by cases h)⟩
 |(n,C)::r,h,f=>by
  have ih:=Iu r (fun x hx=>h x (by simp[hx])) f;cases hb:Nat.beq n f with
  |false=>
   have e:mkP ((n,C)::r) f=mkP r f:=by funext l;simp only[mkP,hb,cond_false]
   rw[e];exact ih
  |true=>
   have e:mkP ((n,C)::r) f=C:=by funext l;simp only[mkP,hb,cond_true]
   rw[e,←Nat.eq_of_beq_eq_true hb];exact h (n,C) (by simp)
theorem Iv:∀ (os:List (Nat×(List SV→List Ob→Option HCon))),(∀ x∈os,FnOkO P x.1 x.2)→∀ f,FnOkO P f (mkO os f)
 | [],_,f=>⟨fun l h c hc=>(by cases hc),fun l h c hc=>(by cases hc)⟩
 |(n,C)::r,h,f=>by
  have ih:=Iv r (fun x hx=>h x (by simp[hx])) f;cases hb:Nat.beq n f with
  |false=>
   have e:mkO ((n,C)::r) f=mkO r f:=by funext l h;simp only[mkO,hb,cond_false]
   rw[e];exact ih
  |true=>
   have e:mkO ((n,C)::r) f=C:=by funext l h;simp only[mkO,hb,cond_true]
   rw[e,←Nat.eq_of_beq_eq_true hb];exact h (n,C) (by simp)
def noY:List SV→Res→Option YCon:=fun _ _=>none
theorem TC:YOk P noY:=fun l r c h=>(by cases h)
def mkG (ps:List (Nat×(List SV→Option Con)))(os:List (Nat×(List SV→List Ob→Option HCon))):Cons:=⟨mkP ps,mkO os,noY⟩
theorem ap {ps:List (Nat×(List SV→Option Con))}{os:List (Nat×(List SV→List Ob→Option HCon))}(h1:∀ x∈ps,FnOk P x.1 x.2)(h2:∀ x∈os,FnOkO P x.1 x.2):ConsOk P (mkG ps os):=⟨Iu ps h1,Iv os h2,TC⟩
@[go_sem] theorem mkG_p {ps:List (Nat×(List SV→Option Con))}{os:List (Nat×(List SV→List Ob→Option HCon))}:(mkG ps os).p=mkP ps:=(rfl)
@[go_sem] theorem mkG_o {ps:List (Nat×(List SV→Option Con))}{os:List (Nat×(List SV→List Ob→Option HCon))}:(mkG ps os).o=mkO os:=(rfl)
@[go_sem] theorem ZL {f:FuncId}{l:List SV}:mkP [] f l=none:=(rfl)
@[go_sem] theorem XP {n f:Nat}{C:List SV→Option Con}{r:List (Nat×(List SV→Option Con))}{l:List SV}:mkP ((n,C)::r) f l=bif Nat.beq n f then C l else mkP r f l:=(rfl)
@[go_sem] theorem ZM {f:FuncId}{l:List SV}{h:List Ob}:mkO [] f l h=none:=(rfl)
@[go_sem] theorem XQ {n f:Nat}{C:List SV→List Ob→Option HCon}{r:List (Nat×(List SV→List Ob→Option HCon))}{l:List SV}{h:List Ob}:mkO ((n,C)::r) f l h=bif Nat.beq n f then C l h else mkO r f l h:=(rfl)
section
variable {α:Type u}
def pI (k:Int→List SV→Option α):List SV→Option α
 | .v (.int .i64 n)::r=>k n r
 |_=>none
def pU (k:Int→List SV→Option α):List SV→Option α
 | .v (.int .u64 n)::r=>k n r
 |_=>none
def pB (k:Bool→List SV→Option α):List SV→Option α
 | .v (.bool b)::r=>k b r
 |_=>none
def pS (k:ByteArray→List SV→Option α):List SV→Option α
 | .v (.string b)::r=>k b r
 |_=>none
def DO (t:Tag)(k:List t.T→List SV→Option α)(r:List SV)(k':Tag)(l:List k'.T):Option α:=if h:k'=t then k (h▸l) r else none
def pR (t:Tag)(k:List t.T→List SV→Option α):List SV→Option α
 | .rs k' l::r=>DO t k r k' l
 |_=>none
def pDo {T:Type}(k:T→List SV→Option α)(r:List SV):Option T→Option α
 |some x=>k x r
 |none=>none
def pD (t:Tag)(k:t.T→List SV→Option α):List SV→Option α
 | .agg l::r=>pDo k r (uf t l)
 |_=>none
def pX (t:Tag)(k:t.T→List SV→Option α):List SV→Option α
 | .ep l 0::r=>pDo k r (uf t l)
 |_=>none
def M0 (t t2:Tag)(k:List (t.T×t2.T)→List SV→Option α)(r:List SV)(k' k2:Tag)(l:List (k'.T×k2.T)):Option α:=if h:k'=t∧k2=t2 then k (h.1▸h.2▸l) r else none
def pM (t t2:Tag)(k:List (t.T×t2.T)→List SV→Option α):List SV→Option α
 | .rm k' k2 l::r=>M0 t t2 k r k' k2 l
 |_=>none
def pE (c:α):List SV→Option α
 | [] =>some c
 |_=>none
variable {k:Int→List SV→Option α}{kb:Bool→List SV→Option α}{ks:ByteArray→List SV→Option α}{r:List SV}{c:α}{t:Tag}
@[go_sem] theorem ZN {n:Int}:pI k (.v (.int .i64 n)::r)=k n r:=(rfl)
@[go_sem] theorem ZO {n:Int}:pU k (.v (.int .u64 n)::r)=k n r:=(rfl)
@[go_sem] theorem ZP {b:Bool}:pB kb (.v (.bool b)::r)=kb b r:=(rfl)
@[go_sem] theorem ZQ {b:ByteArray}:pS ks (.v (.string b)::r)=ks b r:=(rfl)
@[go_sem] theorem ZR {kr:List t.T→List SV→Option α}{l:List t.T}:pR t kr (.rs t l::r)=kr l r:=by simp[pR,DO]
@[go_sem] theorem ZS {kd:t.T→List SV→Option α}{l:List SV}:pD t kd (.agg l::r)=pDo kd r (uf t l):=(rfl)
@[go_sem] theorem ZT {kd:t.T→List SV→Option α}{l:List SV}:pX t kd (.ep l 0::r)=pDo kd r (uf t l):=(rfl)
@[go_sem] theorem ZU {t2:Tag}{kr:List (t.T×t2.T)→List SV→Option α}{l:List (t.T×t2.T)}:pM t t2 kr (.rm t t2 l::r)=kr l r:=by simp[pM,M0]
@[go_sem] theorem XR {T:Type}{kd:T→List SV→Option α}{x:T}:pDo kd r (some x)=kd x r:=(rfl)
@[go_sem] theorem aaE:pE c []=some c:=(rfl)
theorem TD {l:List SV}{c:α}(h:pI k l=some c):∃ n r,l=.v (.int .i64 n)::r∧k n r=some c:=by
 unfold pI at h;split at h
 ·exact⟨_,_,rfl,h⟩
 ·cases h
theorem zG {l:List SV}{c:α}(h:pU k l=some c):∃ n r,l=.v (.int .u64 n)::r∧k n r=some c:=by
 unfold pU at h;split at h
 ·exact⟨_,_,rfl,h⟩
 ·cases h
theorem TE {l:List SV}{c:α}(h:pB kb l=some c):∃ n r,l=.v (.bool n)::r∧kb n r=some c:=by
 unfold pB at h;split at h
 ·exact⟨_,_,rfl,h⟩
 ·cases h
theorem B4 {l:List SV}{c c':α}(h:pE c' l=some c):l=[]∧c=c':=by
 unfold pE at h;split at h
 ·cases h;exact⟨rfl,rfl⟩
 ·cases h
theorem TF {kr:List t.T→List SV→Option α}{l:List SV}{c:α}(h:pR t kr l=some c):∃ x r,l=.rs t x::r∧kr x r=some c:=by
 unfold pR at h;split at h
 ·rename_i k' l' r;unfold DO at h;split at h
  ·rename_i e;subst e;exact⟨_,_,rfl,h⟩
  ·cases h
 ·cases h
theorem M1 {kd:t.T→List SV→Option α}{l:List SV}{c:α}(h:pX t kd l=some c):∃ x r,l=.ep (cellsOf t x) 0::r∧kd x r=some c:=by
 unfold pX at h;split at h
 ·rename_i l' r;cases he:uf t l' with
  |none=>rw[he]at h;cases h
  |some x=>rw[he]at h;exact⟨x,r,by rw[qR he],h⟩
 ·cases h
theorem TG {t2:Tag}{kr:List (t.T×t2.T)→List SV→Option α}{l:List SV}{c:α}(h:pM t t2 kr l=some c):∃ x r,l=.rm t t2 x::r∧kr x r=some c:=by
 unfold pM at h;split at h
 ·rename_i k' k2 l' r;unfold M0 at h;split at h
  ·rename_i e;obtain⟨rfl,rfl⟩:=e;exact⟨_,_,rfl,h⟩
  ·cases h
 ·cases h
theorem M2 {kd:t.T→List SV→Option α}{l:List SV}{c:α}(h:pD t kd l=some c):∃ x r,l=.agg (cellsOf t x)::r∧kd x r=some c:=by
 unfold pD at h;split at h
 ·rename_i l' r;cases he:uf t l' with
  |none=>rw[he]at h;cases h
  |some x=>rw[he]at h;exact⟨x,r,by rw[qR he],h⟩
 ·cases h
end
section
variable {F:Nat→Prop}{own:Own}{w:World}
theorem B5 {p:Pk}{s:SV}{v:Value}(h:Rel F own w s v):Rel F own w (zo p s) v:=by
 unfold zo;split
 ·cases h with
  |agg h0 h1=>
   refine .agg (by rw[yE];exact h0) fun j s hj=>?_;obtain⟨s0,e1,e2| ⟨k,e2⟩⟩:=un _ _ _ _ hj
   ·subst e2;exact h1 j _ e1
   ·subst e2;exact o_ (h1 j _ e1)
 ·exact o_ h
 ·exact o_ h
 ·exact h
theorem B6:∀ (ps:List Pk) (l:List SV),(bv ps l).length=l.length
 | [],l=>by simp[bv]
 |k::ks,[] =>by simp[bv]
 |k::ks,s::r=>by simp[bv,B6 ks r]
theorem B7:∀ (ps:List Pk) (l:List SV) (j:Nat) (s:SV),(bv ps l)[j]? =some s→∃ s0,l[j]? =some s0∧(s=s0∨∃ p,s=zo p s0)
 | [],l,j,s,h=>⟨s,by simpa[bv]using h,.inl rfl⟩
 |k::ks,[],j,s,h=>by simp[bv]at h
 |k::ks,x::r,0,s,h=>by simp[bv]at h;exact⟨x,rfl,.inr ⟨k,h.symm⟩⟩
 |k::ks,x::r,j+1,s,h=>by simp[bv]at h;simpa using B7 ks r j s h
theorem FnOk.norm {f:FuncId}{C:List SV→Option Con}(ps:List Pk)(h:FnOk P f C):FnOk P f (fun l=>C (bv ps l)):=
 ⟨fun l c hc=>h.enter _ c hc,fun l c hc hpre F w vs hF hvs=>h.calls _ c hc hpre F w vs hF ⟨by rw[B6];exact hvs.1,fun j s hj=>by
  obtain⟨s0,e1,e2| ⟨p,e2⟩⟩:=B7 _ _ _ _ hj
  ·subst e2;exact hvs.2 j _ e1
  ·subst e2;exact B5 (hvs.2 j _ e1)⟩⟩
end
attribute [go_sem] da mr lf
attribute [go_sem] uf
def noH {α:Type 1}:List Ob→Option α→Option α
 | [],x=>x
 |_,_=>none
@[go_sem] theorem ZV {α:Type 1}{x:Option α}:noH [] x=x:=(rfl)
theorem PQ {α:Type 1}{h:List Ob}{x:Option α}{c:α}(hh:noH h x=some c):h=[]∧x=some c:=by
 cases h with
 |nil=>exact⟨rfl,hh⟩
 |cons=>cases hh
theorem f8 {n:Int}(h1: -9223372036854775808≤n)(h2:n<9223372036854775808):i64.wrap n=n:=by
 simp[IntKind.wrap,IntKind.bits,IntKind.signed];omega
end Go.Sx
end
section
namespace Go.Sx
open Go.RowKit
open IntKind (i64)
def aq {ρ σ:Type}(step:Nat→σ→ρ⊕σ):Nat→Nat→σ→ρ⊕σ
 |0,_,s=>.inr s
 |n+1,i,s=>match step i s with
  | .inl r=>.inl r
  | .inr s'=>aq step n (i+1) s'
def gD {ρ σ τ:Type}(step:τ→σ→ρ⊕σ):List τ→σ→ρ⊕σ
 | [],s=>.inr s
 |x::l,s=>match step x s with
  | .inl r=>.inl r
  | .inr s'=>gD step l s'
theorem DP {ρ σ τ:Type}(f:τ→σ→ρ⊕σ)(d:τ):∀ (l pre:List τ) (s:σ),aq (fun i s=>f ((pre++l).getD i d) s) l.length pre.length s=gD f l s
 | [],_,_=>rfl
 |x::l,pre,s=>by
  simp only[List.length_cons,aq,gD];have e:(pre++x::l).getD pre.length d=x:=by simp
  rw[e];cases f x s with
  |inl r=>rfl
  |inr s'=>
   have:=DP f d l (pre++[x]) s';simpa using this
theorem yQ {ρ σ τ:Type}(f:τ→σ→ρ⊕σ)(d:τ)(l:List τ)(s:σ):aq (fun i s=>f (l.getD i d) s) l.length 0 s=gD f l s:=DP f d l [] s
def LC {ρ σ:Type}(pre:Prop)(run:ρ⊕σ)(exE:ρ→Ex)(outE:ρ→St)(outN:σ→St):LCon:=
 {α:=ρ⊕σ,pre:=pre,post:=fun r=>r=run,ex:=fun r=>match r with| .inl x=>exE x| .inr _=>.normal,out:=fun r=>match r with| .inl x=>outE x| .inr s=>outN s}
@[go_sem] theorem B8 {ρ σ:Type}{pre:Prop}{run:ρ⊕σ}{exE:ρ→Ex}{outE:ρ→St}{outN:σ→St}{Q:Ex→St→Prop}:
  rS Q (some (LC pre run exE outE outN))=(pre∧(∀ x,run=.inl x→Q (exE x) (outE x))∧∀ s,run=.inr s→Q .normal (outN s)):=by
 apply propext;constructor
 ·rintro⟨h1,h2⟩;exact⟨h1,fun x hx=>h2 (.inl x) hx.symm,fun s hs=>h2 (.inr s) hs.symm⟩
 ·rintro⟨h1,h2,h3⟩;refine⟨h1,fun r hr=>?_⟩;cases r with
  |inl x=>exact h2 x hr.symm
  |inr s=>exact h3 s hr.symm
section
variable {P:Program}{ρ σ:Type}
def GB (step:Nat→σ→ρ⊕σ)(n:Nat)(exE:ρ→Ex)(outE:ρ→St)(outN:σ→St)(n0 k:Nat)(s:σ)(e:Ex)(st:St):Prop:=
 (∃ js,n≤k∧e=.normal∧n0≤(outN s).h.length∧Sub js n0 st (outN s))∨∃ x js,k<n∧step k s=.inl x∧exE x=e∧n0≤(outE x).h.length∧Sub js n0 st (outE x)
def EW (step:Nat→σ→ρ⊕σ)(n:Nat)(exE:ρ→Ex)(outE:ρ→St)(outN:σ→St)(D:Nat→σ→St)(J:Nat→σ→Prop)(n0 id k:Nat)(s:σ):Ex→St→Prop
 | .normal,st=>k<n∧∃ s' js,step k s=.inr s'∧J (k+1) s'∧n0≤(D (k+1) s').h.length∧Sub js n0 st (D (k+1) s')
 | .exit j,st=>bif Nat.beq j id then GB step n exE outE outN n0 k s .normal st else GB step n exE outE outN n0 k s (.exit j) st
 | .ret,st=>GB step n exE outE outN n0 k s .ret st
 | .pan x,st=>GB step n exE outE outN n0 k s (.pan x) st
variable {step:Nat→σ→ρ⊕σ}{n n0 id k j:Nat}{exE:ρ→Ex}{outE:ρ→St}{outN:σ→St}{D:Nat→σ→St}{J:Nat→σ→Prop}{s:σ}{st:St}{x:Value}
@[go_sem] theorem OX:EW step n exE outE outN D J n0 id k s .normal st=(k<n∧∃ s' js,step k s=.inr s'∧J (k+1) s'∧n0≤(D (k+1) s').h.length∧Sub js n0 st (D (k+1) s')):=(rfl)
@[go_sem] theorem RV:EW step n exE outE outN D J n0 id k s (.exit j) st=bif Nat.beq j id then GB step n exE outE outN n0 k s .normal st else GB step n exE outE outN n0 k s (.exit j) st:=(rfl)
@[go_sem] theorem TH:EW step n exE outE outN D J n0 id k s .ret st=GB step n exE outE outN n0 k s .ret st:=(rfl)
@[go_sem] theorem TJ:EW step n exE outE outN D J n0 id k s (.pan x) st=GB step n exE outE outN n0 k s (.pan x) st:=(rfl)
end
def itY (items:List (List SV))(r:Nat→Res):List SV→Res→Option YCon:=fun args x=>
 some { α:=Bool,pre:=x=r x.n∧1≤x.n∧items[x.n - 1]? =some args,post:=fun _=>True,res:=fun b=>(b,r (if b then x.n+1 else 0))}
def GC (P:Program)(f:FuncId)(mk:SV→List SV)(hs:List Ob)(items:List (List SV)):Prop:=
 (∀ (args:Array Value) (w:World),(callFunc f args).run P w=.ok (.enter f args) w)∧
 ∀ r:Nat→Res,(∀ k,(r k).n=k)→YOk P (itY items r)→∀ (F:Nat→Prop) (own:Own) (w:World) (vs:Array Value),Hp F own w (.ab (r 1)::hs)→RelL F own w (mk (.os 0)) vs→
  Calls P f vs w (fun e w'=>∃ u own' j h',e=.returned u∧(j=0∨j=items.length+1)∧Hp F own' w' (.ab (r j)::h')∧Fr { w:=w,own:=own} own' w')
theorem RW {P:Program}{f:FuncId}{mk:SV→List SV}{hs:List Ob}{items:List (List SV)}
  (h:∀ r:Nat→Res,(∀ k,(r k).n=k)→YOk P (itY items r)→∃ C,FnOkO P f C∧∃ c,C (mk (.os 0)) (.ab (r 1)::hs)=some c∧c.pre∧∀ x,c.post x→∃ s j h',c.res x=.ret s (.ab (r j)::h')∧(j=0∨j=items.length+1))
  (he:∀ (args:Array Value) (w:World),(callFunc f args).run P w=.ok (.enter f args) w):GC P f mk hs items:=by
 refine⟨he,fun r hr hy F own w vs hp hvs=>?_⟩;obtain⟨C,hC,c,h1,h2,h3⟩:=h r hr hy;refine(hC.calls _ _ c h1 h2 F own w vs hp hvs).mono ?_;rintro e w' ⟨x,own',q1,q2⟩;obtain⟨s,j,h',k1,k2⟩:=h3 x q1;rw[k1]at q2;obtain⟨⟨u,rfl,_⟩,q3,q4,_⟩:=q2;exact⟨u,own',j,h',rfl,k2,q3,q4⟩
def GD (pre:Prop)(r:Nat→Res)(m:Nat):YCon:= { α:=Bool,pre:=pre,post:=fun _=>True,res:=fun b=>(b,r (if b then m else 0))}
theorem M3 {items:List (List SV)}{r:Nat→Res}(hr:∀ k,(r k).n=k)(k:Nat)(args:List SV):itY items r args (r (k+1))=some (GD (items[k]? =some args) r (k+2)):=by
 unfold itY GD;simp[hr]
section
variable {id m:Nat}{t:List (Nat×SV)}{h:List Ob}{K:St→Prop}{pre:Prop}{r:Nat→Res}{ops:List Oper}{g:Nat×Bool}
theorem two {p:Bool→Prop}:(∀ b,p b)=(p true∧p false):=propext ⟨fun h=>⟨h true,h false⟩,fun h b=>by
 cases b
 ·exact h.2
 ·exact h.1⟩
@[go_sem] theorem ZW {d:Nat}:HL id (some d) ⟨t,h⟩ K (some (GD pre r m))=(pre∧K ⟨(d,.b true)::t,bf h id (.ab (r m))⟩∧K ⟨(d,.b false)::t,bf h id (.ab (r 0))⟩):=by
 show(pre∧∀ b:Bool,True→K ⟨(d,.b b)::t,bf h id (.ab (r (if b then m else 0)))⟩)=_;simp only[true_imp_iff];rw[two];rfl
@[go_sem] theorem ZX {d:Nat}:FQ id ops g (some d) ⟨t,h⟩ K (some (GD pre r m))=((cV ops t ops.length g→pre∧K ⟨(d,.gd g.1 g.2 (.b true))::t,bf h id (.ab (r m))⟩∧K ⟨(d,.gd g.1 g.2 (.b false))::t,bf h id (.ab (r 0))⟩)∧(f6 ops t ops.length g→K ⟨(d,.gd g.1 g.2 .any)::t,h⟩)):=by
 show((cV ops t ops.length g→pre∧∀ b:Bool,True→K ⟨(d,.gd g.1 g.2 (.b b))::t,bf h id (.ab (r (if b then m else 0)))⟩)∧(f6 ops t ops.length g→K ⟨(d,.gd g.1 g.2 .any)::t,h⟩))=_;simp only[true_imp_iff];rw[two];rfl
end
def PR (own:Own)(n:Nat):List Nat:=(List.range n).flatMap fun id=>match own id with|some hd=>hd.bs|none=>[]
theorem B9 {own:Own}{n:Nat}(hd:∀ id hd,own id=some hd→id<n)(b:Nat):b∈PR own n↔∃ id hd,own id=some hd∧b∈hd.bs:=by
 unfold PR;rw[List.mem_flatMap];constructor
 ·rintro⟨id,_,h⟩;cases ho:own id with
  |none=>rw[ho]at h;cases h
  |some hd=>rw[ho]at h;exact⟨id,hd,ho,h⟩
 ·rintro⟨id,hdd,ho,h⟩;exact⟨id,List.mem_range.2 (hd id hdd ho),by rw[ho];exact h⟩
section
variable {P:Program}{w0:Bs}{ts:Tis}{G:Cons}{L:uk}{N:Nat}
def Fw (F:Nat→Prop)(l:Nat)(w:World)(b:Nat):Prop:=(F b∧b<w.heap.size)∨b=l
structure LRec where
 l:Nat
 fn:FuncId
 tmps:Array Value
 ps:Array Tmp
 assign:Code
 body:Code
 D:Nat
def LRec.obj (x:LRec)(s:LoopState)(p:Option Code):Obj:=.loop { state:=s,pending:=p,fn:=x.fn,tmps:=x.tmps,params:=x.ps,assign:=x.assign,body:=x.body,defers:=x.D}
structure Pack (x:LRec)(T:List (Nat×SV))(b_:Own)(n0:Nat)(H:List Ob)(o:Obj)(own':Own)(F:Nat→Prop)(bs:List Nat)(w:World):Prop where
 hp:Hp (Fw F x.l w) own' w H
 slots:∀ t,Rel (Fw F x.l w) own' w (lk t T) (x.tmps.getD t undef)
 bs:∀ b,b∈bs↔b=x.l∨∃ id hd,own' id=some hd∧b∈hd.bs
 ids:∀ id hd,b_ id=some hd→∃ hd',own' id=some hd'∧hd.like hd'
 nl:¬F x.l
 rcd:w.heap[x.l]? =some o
 le:n0≤H.length
theorem Pack.loc {x:LRec}{T:List (Nat×SV)}{b_:Own}{n0:Nat}{H:List Ob}{o:Obj}{own':Own}{F F':Nat→Prop}{bs:List Nat}{w w':World}(h:Pack x T b_ n0 H o own' F bs w)(hsz:w.heap.size≤w'.heap.size)
  (hb:∀ b,b<w.heap.size→¬F b→w'.heap[b]? =w.heap[b]?) (hF:∀ b,b<w.heap.size→F' b→F b):Pack x T b_ n0 H o own' F' bs w':=by
 have hl:=ni h.rcd;have hc:Carries (Fw F x.l w) own' w (Fw F' x.l w') own' w':=⟨fun _ hd e=>⟨hd,e,.refl _⟩,fun b hbl hn=>⟨fun ho=>hn (ho.imp (fun q=>q.imp (fun⟨q1,_⟩ =>⟨hF b hbl q1,hbl⟩) (fun e=>e)) (fun e=>e)),hb b hbl fun hf=>hn (.inl (.inl ⟨hf,hbl⟩))⟩⟩;have hob:∀ id hd b,own' id=some hd→b∈hd.bs→w'.heap[b]? =w.heap[b]?:=fun id hd b e hm=>hb b (h.hp.lt id hd b e hm) fun hf=>h.hp.apart id hd b e hm (.inl ⟨hf,h.hp.lt id hd b e hm⟩);refine⟨⟨h.hp.dom,fun b hbf=>?_,fun id hd b e hm hbf=>?_,h.hp.inj,fun id hd b e hm=>Nat.lt_of_lt_of_le (h.hp.lt id hd b e hm) hsz,fun id hdd=>?_⟩,fun t=>(h.slots t).carry hc,h.bs,h.ids,fun hf=>h.nl (hF _ hl hf),by rw[hb _ hl h.nl];exact h.rcd,h.le⟩
 ·rcases hbf with⟨_,q⟩ |rfl
  ·exact q
  ·omega
 ·have hlt:=h.hp.lt id hd b e hm;rcases hbf with⟨q,_⟩ |q
  ·exact h.hp.apart id hd b e hm (.inl ⟨hF b hlt q,hlt⟩)
  ·exact h.hp.apart id hd b e hm (.inr q)
 ·obtain⟨hd,e1,e2⟩:=h.hp.obs id hdd;exact⟨hd,e1,e2.carry hc hsz fun b hm=>hob id hd b e1 hm⟩
def psT:List Nat→List SV→List (Nat×SV)
 |p::ps,s::r=>(p,s)::psT ps r
 |_,_=>[]
def itQ {σ:Type}(T:List (Nat×SV))(Hx:σ→List Ob)(I:Nat→σ→Prop)(S:Ex→σ→Prop)(n0 k:Nat):Ex→St→Prop
 | .normal,st=>∃ y js,I (k+1) y∧n0≤(Hx y).length∧Sub js n0 ⟨T,st.h⟩ ⟨T,Hx y⟩
 | .exit j,st=>∃ y js,S (.exit j) y∧n0≤(Hx y).length∧Sub js n0 ⟨T,st.h⟩ ⟨T,Hx y⟩
 | .ret,st=>∃ y js,S .ret y∧n0≤(Hx y).length∧Sub js n0 ⟨T,st.h⟩ ⟨T,Hx y⟩
 | .pan _,_=>False
def Iw:Ex→Option Code
 | .exit j=>some (.exit j)
 | .ret=>some .ret
 |_=>none
def itR {σ:Type}(x:LRec)(T:List (Nat×SV))(b_:Own)(n0:Nat)(Hx:σ→List Ob)(I:Nat→σ→Prop)(S:Ex→σ→Prop):Nat→Res
 |0=>{ yv:=.func (.yield x.l) #[] #[],n:=0,R:=fun F bs w=>∃ e y own',S e y∧(Iw e).isSome=true∧Pack x T b_ n0 (Hx y) (x.obj .done (Iw e)) own' F bs w,loc:=fun F F' bs w w' ⟨e,y,own',h0,h1,h2⟩ hsz hb hF=>⟨e,y,own',h0,h1,h2.loc hsz hb hF⟩}
 |k+1=>{ yv:=.func (.yield x.l) #[] #[],n:=k+1,R:=fun F bs w=>∃ y own',I k y∧Pack x T b_ n0 (Hx y) (x.obj .ready none) own' F bs w,loc:=fun F F' bs w w' ⟨y,own',h0,h2⟩ hsz hb hF=>⟨y,own',h0,h2.loc hsz hb hF⟩}
theorem RX {σ:Type}{x:LRec}{T:List (Nat×SV)}{b_:Own}{n0:Nat}{Hx:σ→List Ob}{I:Nat→σ→Prop}{S:Ex→σ→Prop}:∀ k,(itR x T b_ n0 Hx I S k).n=k∧(itR x T b_ n0 Hx I S k).yv=.func (.yield x.l) #[] #[]
 |0=>⟨rfl,rfl⟩
 |_+1=>⟨rfl,rfl⟩
theorem M4:∀ (ps:List Nat) (args:List SV) (T:List (Nat×SV)) (tmps:Array Value) (vs:List Value) (t:Nat) {F:Nat→Prop} {own:Own} {w:World},ps.Nodup→(∀ p∈ps,p<tmps.size)→args.length=ps.length→vs.length=ps.length→
  (∀ (j:Nat) (s:SV) (v:Value),args[j]? =some s→vs[j]? =some v→Rel F own w s v)→Rel F own w (lk t T) (tmps.getD t undef)→Rel F own w (lk t (psT ps args++T)) (((ps.zip vs).foldl (fun tmps (t,a) =>tmps.setIfInBounds t a) tmps).getD t undef)
 | [],args,T,tmps,vs,t,_,_,_,_,_,ha,_,_,hT=>by
  cases args with
  |nil=>exact hT
  |cons=>simp at ha
 |p::ps,[],T,tmps,vs,t,_,_,_,_,_,ha,_,_,_=>by simp at ha
 |p::ps,s::args,T,tmps,[],t,_,_,_,_,_,_,hv,_,_=>by simp at hv
 |p::ps,s::args,T,tmps,v::vs,t,F,own,w,hn,hp,ha,hv,hr,hT=>by
  rw[List.nodup_cons]at hn;have hother:∀ (l:List (Nat×Value)) (tm:Array Value),(∀ x∈l,x.1≠p)→(l.foldl (fun tmps (t,a) =>tmps.setIfInBounds t a) tm).getD p undef=tm.getD p undef:=by
   intro l;induction l with
   |nil=>intro tm _;rfl
   |cons y r ih=>
    intro tm hy;simp only[List.foldl_cons];rw[ih _ fun x hx=>hy x (by simp[hx])];simp only[Array.getD_eq_getD_getElem?,Array.getElem?_setIfInBounds];rw[if_neg (hy y (by simp))]
  have hlkp:∀ (ps2:List Nat) (as2:List SV),p ∉ ps2→lk p (psT ps2 as2++T)=lk p T:=by
   intro ps2;induction ps2 with
   |nil=>intro as2 _;cases as2 <;>rfl
   |cons q r ih=>
    intro as2 hq;cases as2 with
    |nil=>rfl
    |cons a as2=>
     simp only[List.mem_cons,not_or]at hq;simp only[psT,List.cons_append];rw[ov,if_neg (fun e=>hq.1 e.symm)];exact ih as2 hq.2
  simp only[List.zip_cons_cons,List.foldl_cons,psT,List.cons_append];rw[ov];by_cases ht:p=t
  ·subst ht;rw[if_pos rfl,hother _ _ fun x hx=>by
    have:=List.of_mem_zip hx;exact fun e=>hn.1 (e▸this.1)]
   simp only[Array.getD_eq_getD_getElem?,Array.getElem?_setIfInBounds];simp only[if_true];rw[if_pos (hp p (by simp))];exact hr 0 s v rfl rfl
  ·rw[if_neg ht];refine M4 ps args T (tmps.setIfInBounds p v) vs t hn.2 (fun q hq=>by simpa using hp q (by simp[hq])) (by simpa using ha) (by simpa using hv) (fun j s v h1 h2=>hr (j+1) s v (by simpa using h1) (by simpa using h2)) ?_;simp only[Array.getD_eq_getD_getElem?,Array.getElem?_setIfInBounds];rw[if_neg ht];simpa[Array.getD_eq_getD_getElem?]using hT
theorem Ld (l:List (Nat×Value)):∀ (tm:Array Value),(l.foldl (fun tmps (t,a) =>tmps.setIfInBounds t a) tm).size=tm.size:=by
 induction l with
 |nil=>intro tm;rfl
 |cons y r ih=>intro tm;simp only[List.foldl_cons];rw[ih];simp
theorem TK (hm:P.follows .mixedOrders=true)(hts:ts.ok P)(hG:ConsOk P G){σ:Type}{x:LRec}{T:List (Nat×SV)}{b_:Own}{n0:Nat}{Hx:σ→List Ob}{I:Nat→σ→Prop}{S:Ex→σ→Prop}{items:List (List SV)}
  (hsz:x.tmps.size=N) (hn0:∀ id hd,b_ id=some hd→id<n0) (hpn:x.ps.toList.Nodup) (hpN:∀ p∈x.ps.toList,p<N) (hca:bO N x.assign=true) (hcb:bO N x.body=true)
  (hround:∀ k y args,items[k]? =some args→I k y→args.length=x.ps.size∧∃ L Qx,(∀ l,am P (some l) N L x.assign)∧(∀ l,am P (some l) N L x.body)∧(∀ e st,Qx e st→itQ T Hx I S n0 k e st)∧exec ts G L x.assign ⟨psT x.ps.toList args++T,Hx y⟩ (fun e st1=>e=.normal∧exec ts G L x.body st1 Qx)):
  YOk P (itY items (itR x T b_ n0 Hx I S)):=by
 intro args rr c hc hpre F bs w vs hR hF hbs hvs;simp only[itY,Option.some.injEq]at hc;subst hc;obtain⟨h1,h2,h3⟩:=hpre;generalize hk:rr.n=kk at h1 h2 h3;obtain⟨k,rfl⟩:∃ k,kk=k+1:=⟨kk - 1,by omega⟩;simp only[Nat.add_sub_cancel]at h3;subst h1;obtain⟨y,own',hI,pk⟩:=hR;obtain⟨hal,L,Qx,hla,hlb,hQx,hex⟩:=hround k y args h3 hI;have hvl:vs.size=x.ps.size:=by rw[hvs.1];exact hal
 have hl:=ni pk.rcd;right;have hpfs:∀ b,Fw F x.l w b→b<w.heap.size:=fun b hb=>pk.hp.foreign b hb;refine⟨x.l,x.fn,(x.ps.zip vs).foldl (fun tmps (t,a) =>tmps.setIfInBounds t a) x.tmps,x.assign,x.body,?_,roundIn_of_wpIn trivial ?_⟩
 ·show(K1 (.func (.yield x.l) #[] #[]) vs).run P w=_;have hy:=run_yield (P:=P) (w:=w) (l:=x.l) (args:=vs) pk.rcd hvl;unfold K1;simp[Deferred.ofValue,invoke,hy,go_sem]
 ·
  generalize htm:(x.ps.zip vs).foldl (fun tmps (t,a) =>tmps.setIfInBounds t a) x.tmps=tmps';have hFw:∀ b,F b→Fw F x.l w b:=fun b hb=>.inl ⟨hb,hF b hb⟩;have hargs:RelL (Fw F x.l w) own' w args vs:=⟨hvs.1,fun j s hj=>(hvs.2 j s hj).over (qf (hvs.2 j s hj)) fun b hb ho=>hb (by
   left;rcases ho with(⟨q,_⟩ |q) | ⟨id,hd,e,hm⟩
   ·exact .inl q
   ·exact .inr ((pk.bs b).2 (.inl q))
   ·exact .inr ((pk.bs b).2 (.inr ⟨id,hd,e,hm⟩)))⟩
  have hstart:StRel (Fw F x.l w) { w:=w,own:=own'} N own' ⟨psT x.ps.toList args++T,Hx y⟩ { tmps:=tmps',defers:=[]} w:=by
   refine⟨?_,Dfr.nil,pk.hp,Fr.refl { w:=w,own:=own'},fun t=>?_⟩
   ·rw[←htm,←Array.foldl_toList,Ld];exact hsz
   ·rw[←htm,←Array.foldl_toList,Array.toList_zip];refine M4 x.ps.toList args T x.tmps vs.toList t hpn (fun p hp=>by rw[hsz];exact hpN p hp) (by simpa using hal) (by simpa using hvl) (fun j s v h1 h2=>?_) (pk.slots t);have:=hargs.2 j s h1;have e:vs.getD j undef=v:=by rw[Array.getElem?_toList]at h2;simp[Array.getD_eq_getD_getElem?,h2]
    rwa[e]at this
  refine wpIn_mono (lX (ro:=some x.l) (nd:=0) hm hts hG x.assign hca (hla x.l) _ _ _ hex own' _ w hstart) ?_;intro e a1 w1 hq;cases e with
  |normal=>
   obtain⟨F1,own1,st1,hF1,hst1,_,hex1⟩:=hq;have hl1:F1 x.l:=hF1 _ (.inr rfl);have hno1:∀ id hd,own' id=some hd→x.l ∉ hd.bs:=fun id hd e hm=>pk.hp.apart id hd _ e hm (.inr rfl);have hrec1:w1.heap[x.l]? =some (x.obj .ready none):=by
    rw[hst1.fr.block x.l ⟨hl,fun⟨id,hd,e,hm⟩ =>hno1 id hd e hm⟩];exact pk.rcd
   refine⟨w1.putObj x.l (x.obj .busy none),run_beginRound hrec1 rfl,?_⟩;have g1:Goes F1 own1 w1 own1 (w1.putObj x.l (x.obj .busy none)):=⟨fun _ hd e=>⟨hd,e,.refl _⟩,fun b _ hn=>⟨hn,World.putObj_heap_other fun e=>hn (.inl (e▸hl1))⟩,by simp⟩;have hst2:StRel F1 { w:=w.putObj x.l (x.obj .busy none),own:=own'} N own1 st1 a1 (w1.putObj x.l (x.obj .busy none)):=by
    refine⟨hst1.size,?_,hst1.hp.goes g1 fun id hd b e hm=>World.putObj_heap_other fun e'=>hst1.hp.apart id hd b e hm (e'▸hl1),⟨hst1.fr.ids,fun id hd b e hm ho=>hst1.fr.base id hd b e hm ⟨by have:=ho.1;simpa using this,ho.2⟩,hst1.fr.os,hst1.fr.tape,hst1.fr.output,by simpa using hst1.fr.size,fun b hb=>?_⟩,fun t=>(hst1.slots t).mono g1⟩
    ·obtain⟨ms,Ds,q0,q1,q2,q3⟩:=hst1.defers;refine⟨ms,Ds,q0,q1,q2,fun D hD=>⟨by simpa using (q3 D hD).1,(q3 D hD).2.1,?_⟩⟩;rw[World.putObj_heap_other fun e=>?_]
     ·exact(q3 D hD).2.2
     ·have:=(q3 D hD).2.2;rw[e,hrec1]at this;simp[LRec.obj]at this
    ·by_cases e:b=x.l
     ·subst e;rw[World.putObj_heap_same hl,World.putObj_heap_same (Nat.lt_of_lt_of_le hl hst1.fr.size)]
     ·rw[World.putObj_heap_other e,World.putObj_heap_other e];exact hst1.fr.block b ⟨by have:=hb.1;simpa using this,hb.2⟩
   refine wpIn_mono (lX (ro:=some x.l) (nd:=0) hm hts hG x.body hcb (hlb x.l) _ _ _ hex1 own1 _ _ hst2) ?_;intro e a2 w2 hq
   replace hq:=uz hQx _ _ _ hq
   have key:∀ (F2:Nat→Prop) (own2:Own) (st2:St) (y2:σ) (js:List Nat) (b:Bool) (jump:Option Code),(∀ c,F1 c→F2 c)→StRel F2 { w:=w.putObj x.l (x.obj .busy none),own:=own'} N own2 st2 a2 w2→n0≤(Hx y2).length→Sub js n0 ⟨T,st2.h⟩ ⟨T,Hx y2⟩→b=jump.isNone→
     (∀ own3 bs' w3,Pack x T b_ n0 (Hx y2) (x.obj (if jump.isNone then .ready else .done) jump) own3 F bs' w3→(itR x T b_ n0 Hx I S (if b then k+1+1 else 0)).R F bs' w3)→
     ∃ v w3,(Instr.endRound x.l jump).run P w2=.ok v w3∧∃ a bs',True∧(Ending.returned v)=.returned (.bool ((a,itR x T b_ n0 Hx I S (if a then k+1+1 else 0)):Bool×Res).1)∧(itR x T b_ n0 Hx I S (if a then k+1+1 else 0)).R F bs' w3∧(itR x T b_ n0 Hx I S (if a then k+1+1 else 0)).yv=.func (.yield x.l) #[] #[]∧YFr bs bs' w w3:=by
    intro F2 own2 st2 y2 js b jump hF2 hst hle hsub hb hR3;subst hb;have hl2:F2 x.l:=hF2 _ hl1;have hrec2:w2.heap[x.l]? =some (x.obj .busy none):=by
     rw[hst.fr.block x.l ⟨by simpa using hl,fun⟨id,hd,e,hm⟩ =>hno1 id hd e hm⟩];exact World.putObj_heap_same hl
    have hsz2:w.heap.size≤w2.heap.size:=by have:=hst.fr.size;simpa using this
    have hl2s:=Nat.lt_of_lt_of_le hl hsz2;obtain⟨q1,q2,q3,q4⟩:=Ip hsub hst.hp hle;let own3:=gS js (Hx y2) own2
    let w3:=w2.putObj x.l (x.obj (if jump.isNone then .ready else .done) jump)
    have hF2w:∀ c,Fw F x.l w3 c→F2 c:=fun c hc=>by
     rcases hc with⟨hc,_⟩ |rfl
     ·exact hF2 c (hF1 c (hFw c hc))
     ·exact hl2
    have hoth:∀ c,c≠x.l→w3.heap[c]? =w2.heap[c]?:=fun c hc=>World.putObj_heap_other hc;have hcar:Carries F2 own3 w2 (Fw F x.l w3) own3 w3:=⟨fun _ hd e=>⟨hd,e,.refl _⟩,fun c hcl hn=>⟨fun ho=>hn (ho.imp (hF2w c) (fun e=>e)),hoth c fun e=>hn (.inl (e▸hl2))⟩⟩;have hblk:∀ c,c<w.heap.size→c≠x.l→(¬ ∃ id hd,own' id=some hd∧c∈hd.bs)→w2.heap[c]? =w.heap[c]?:=fun c h1 h2 h3=>by
     rw[hst.fr.block c ⟨by simpa using h1,h3⟩];exact World.putObj_heap_other h2
    have hown2:∀ id hd c,own2 id=some hd→c∈hd.bs→(∃ id hd,own' id=some hd∧c∈hd.bs)∨w.heap.size≤c:=fun id hd c e hm=>by
     have:=hst.fr.base id hd c e hm;by_cases hc:c<w.heap.size
     ·exact .inl (Classical.byContradiction fun hn=>this ⟨by simpa using hc,hn⟩)
     ·exact .inr (by omega)
    have gall:Goes (Fw F x.l w) own' w own2 w2:=⟨hst.fr.ids,fun c hcl hn=>by
     have h2:c≠x.l:=fun e=>hn (.inl (.inr e));have h3:¬ ∃ id hd,own' id=some hd∧c∈hd.bs:=fun h=>hn (.inr h);refine⟨?_,hblk c hcl h2 h3⟩;rintro (hf| ⟨id,hd,e,hm⟩)
     ·exact hn (.inl hf)
     ·rcases hown2 id hd c e hm with h|h
      ·exact h3 h
      ·omega,hsz2⟩
    have hcar2:Carries (Fw F x.l w) own3 w2 (Fw F x.l w3) own3 w3:=⟨fun _ hd e=>⟨hd,e,.refl _⟩,fun c hcl hn=>⟨fun ho=>hn (ho.imp (fun hc=>by
     rcases hc with⟨hc,_⟩ |rfl
     ·exact hFw c hc
     ·exact .inr rfl) (fun e=>e)),hoth c fun e=>hn (.inl (.inr e))⟩⟩
    have hpk:Pack x T b_ n0 (Hx y2) (x.obj (if jump.isNone then .ready else .done) jump) own3 F (x.l::PR own3 (Hx y2).length) w3:=by
     refine⟨⟨q1.dom,fun c hc=>?_,fun id hd c e hm hc=>q1.apart id hd c e hm (hF2w c hc),q1.inj,fun id hd c e hm=>by have:=q1.lt id hd c e hm;simpa[w3]using this,fun id hdd=>?_⟩,fun t=>?_,fun c=>?_,fun id hd e=>?_,pk.nl,World.putObj_heap_same hl2s,hle⟩
     ·rcases hc with⟨_,hc⟩ |rfl
      ·exact hc
      ·simpa[w3]using hl2s
     ·obtain⟨hd,e1,e2⟩:=q1.obs id hdd;exact⟨hd,e1,e2.carry hcar (by simp[w3]) fun c hm=>hoth c fun e=>q1.apart id hd c e1 hm (e▸hl2)⟩
     ·rcases AZ t _ hsub.2.1 with e| ⟨e1,e2⟩
      ·rw[e];exact .any _
      ·have h1:=(pk.slots t).mono gall;have h1':Rel (Fw F x.l w) own2 w2 (ren (AB js) 5 (lk t T)) (x.tmps.getD t undef):=e1▸h1;exact(q3 (Fw F x.l w) 5 _ _ e2 h1').carry hcar2
     ·rw[List.mem_cons,B9 q1.dom]
     ·obtain⟨hd1,e1,l1⟩:=pk.ids id hd e;obtain⟨hd2,e2,l2⟩:=hst.fr.ids id hd1 e1;obtain⟨hd3,e3,l3⟩:=q4 id hd2 (hn0 id hd e) e2;exact⟨hd3,e3,(l1.trans l2).trans l3⟩
    refine⟨_,w3,run_endRound jump hrec2,jump.isNone,_,trivial,rfl,hR3 _ _ _ hpk,(RX _).2,hst.fr.os,hst.fr.tape,hst.fr.output,by simpa[w3]using hsz2,fun c hc hn=>?_,fun c hc=>?_⟩
    ·have h2:c≠x.l:=fun e=>hn ((pk.bs c).2 (.inl e));rw[hoth c h2];exact hblk c hc h2 fun h=>hn ((pk.bs c).2 (.inr h))
    ·rcases List.mem_cons.1 hc with rfl|hc
     ·exact⟨by simpa[w3]using hl2s,.inl ((pk.bs _).2 (.inl rfl))⟩
     ·obtain⟨id,hd,e,hm⟩:=(B9 q1.dom c).1 hc;refine⟨by have:=q1.lt id hd c e hm;simpa[w3]using this,?_⟩;obtain⟨_,j,hd0,_,e2,_,e4⟩:=iw e;obtain⟨_,rfl⟩:=e4 c hm;rcases hown2 j hd c e2 hm with h|h
      ·exact .inl ((pk.bs c).2 (.inr h))
      ·exact .inr h
   cases e with
   |normal=>
    obtain⟨F2,own2,st2,h0,hst,y2,js,hI2,hle,hsub⟩:=hq;exact key F2 own2 st2 y2 js true none h0 hst hle hsub rfl fun own3 bs' w3 hp=>⟨y2,own3,hI2,hp⟩
   |ret=>
    obtain⟨F2,own2,st2,h0,hst,y2,js,hS2,hle,hsub⟩:=hq;exact key F2 own2 st2 y2 js false (some .ret) h0 hst hle hsub rfl fun own3 bs' w3 hp=>⟨.ret,y2,own3,hS2,rfl,hp⟩
   |exit j=>
    obtain⟨F2,own2,st2,h0,hst,y2,js,hS2,hle,hsub⟩:=hq;exact key F2 own2 st2 y2 js false (some (.exit j)) h0 hst hle hsub rfl fun own3 bs' w3 hp=>⟨.exit j,y2,own3,hS2,rfl,hp⟩
   |panic ch=>obtain⟨x',F2,own2,st2,_,_,h,_⟩:=hq;exact h.elim
   |_=>exact hq.elim
  |exit j=>obtain⟨F1,own1,st1,_,_,h,_⟩:=hq;cases h
  |ret=>obtain⟨F1,own1,st1,_,_,h,_⟩:=hq;cases h
  |panic ch=>obtain⟨x',F1,own1,st1,_,_,⟨h,_⟩,_⟩:=hq;cases h
  |_=>exact hq.elim
end
section
variable {P:Program}{w0:Bs}{ts:Tis}{G:Cons}{L:uk}{N:Nat}
def wu (ids:List Nat)(h:List Ob):List Ob:=aR h (ids.map fun id=>(id,Ob.dead))
theorem DQ (h:List Ob)(id:Nat):∀ (ids:List Nat) (h:List Ob),aj (wu ids h) id=if id∈ids then .dead else aj h id
 | [],h=>by simp[wu,aR]
 |a::r,h=>by
  have ih:=DQ h id r (bf h a .dead);have e:wu (a::r) h=wu r (bf h a .dead):=rfl;rw[e,ih];by_cases h1:id∈r
  ·simp[h1]
  ·rw[if_neg h1,cG];by_cases h2:a=id
   ·simp[h2]
   ·rw[if_neg h2,if_neg];simp[h1];exact fun e=>h2 e.symm
def Ix (ids:List Nat)(i:Nat):Option Nat:=(xm i ids).map (· +1)
def GF (ids:List Nat)(h:List Ob):List Ob:=ids.map fun i=>uW (Ix ids) (aj h i)
def ox (st:St)(caps:List SV):List Nat:=reach st.h 64 (caps.flatMap (fq 3)) []
def PS (lc:LCon)(n0:Nat)(e:Ex)(st:St):Prop:= ∃ r js,lc.post r∧lc.ex r=e∧n0≤(lc.out r).h.length∧Sub js n0 st (lc.out r)
theorem PT {F:Nat→Prop}{own:Own}{st:St}{a:Act}{w:World}(hr:StRel F w0 N own st a w)(x:Operand):Rel F own w (raw st.t x) (a.eval x):=by
 cases x with
 |tmp t=>exact hr.slots t
 |const v=>exact .v v
 |func f=>exact .fn rfl rfl (fun j s h=>by simp at h) (fun j s h=>by simp at h)
 |global g=>exact .any _
theorem GG (hm:P.follows .mixedOrders=true)(hts:ts.ok P)(hG:ConsOk P G){id:Nat}{g:Operand}{ps:Array Tmp}{assign body:Code}{C:St→Option LCon}
  (hpn:ps.toList.Nodup) (hpN:∀ p∈ps.toList,p<N) (hca:bO N assign=true) (hcb:bO N body=true)
  (h:∀ st lc,C st=some lc→lc.pre→∃ (f:FuncId) (caps:List SV) (items:List (List SV)) (σ:Type) (T:List (Nat×SV)) (Hx:σ→List Ob) (I:Nat→σ→Prop) (S:Ex→σ→Prop) (x0:σ) (js:List Nat),
   raw st.t g=.fn f [] caps∧I 0 x0∧st.h.length≤(Hx x0).length∧Sub js st.h.length ⟨st.t,wu (ox st caps) st.h⟩ ⟨T,Hx x0⟩∧
   GC P f (fun y=>y::caps.map (ren (Ix (ox st caps)) 3)) (GF (ox st caps) st.h) items∧
   (∀ k y args,items[k]? =some args→I k y→args.length=ps.size∧∃ L Qx,(∀ l,am P (some l) N L assign)∧(∀ l,am P (some l) N L body)∧(∀ e st',Qx e st'→itQ T Hx I S st.h.length k e st')∧exec ts G L assign ⟨psT ps.toList args++T,Hx y⟩ (fun e st1=>e=.normal∧exec ts G L body st1 Qx))∧
   (∀ y,I items.length y→PS lc st.h.length .normal ⟨T,Hx y⟩)∧(∀ y,S .ret y→PS lc st.h.length .ret ⟨T,Hx y⟩)∧
   ∀ j y,S (.exit j) y→PS lc st.h.length (if j=id then .normal else .exit j) ⟨T,Hx y⟩):kG P none N id (.rangeFunc g ps assign body) C:=by
 intro nd F w0 st lc hC hpre own a w hr;obtain⟨f,caps,items,σ,T,Hx,I,S,x0,js,hg,hI0,hle0,hsub0,hit,hround,hN,hRet,hEx⟩:=h st lc hC hpre;have hrel:=PT hr g;rw[hg]at hrel;generalize hev:a.eval g=gv at hrel;cases hrel with
 | @fn _ _ _ us lb e1 e2 e3 e4=>
  have hus:us= #[]:=by
   obtain⟨l⟩:=us;cases l with
   |nil=>rfl
   |cons=>simp at e1
  subst hus;have hcaps:RelL F own w caps lb:=⟨e2,e4⟩;have hids:∀ i∈ox st caps,∃ hd,own i=some hd:=xa hr.hp 64 _ [] (fun i hi=>by
   obtain⟨x,hx,hxi⟩:=List.mem_flatMap.1 hi;obtain⟨j,hj⟩:=List.getElem?_of_mem hx;exact EO 3 x _ (hcaps.2 j x hj) i hxi) (fun i hi=>by cases hi)
  have hnd:(ox st caps).Nodup:=qT st.h 64 _ [] List.nodup_nil;generalize hidsE:ox st caps=ids at hids hnd hsub0 hit;refine wpIn_block (wpIn_rangeFunc fun fn _=>?_);let rc:LRec:=⟨w.heap.size+1,fn,a.tmps,ps,assign,body,w.heap.size⟩
  let yv:Value:=.func (.yield (w.heap.size+1)) #[] #[]
  obtain⟨W1,hW1⟩:∃ W1,(w.alloc (.deferred (some []))).alloc (rc.obj .ready none)=W1:=⟨_,rfl⟩;have hsz1:W1.heap.size=w.heap.size+2:=by rw[←hW1,jv,jv]
  have hold:∀ b,b<w.heap.size→W1.heap[b]? =w.heap[b]?:=fun b hb=>by
   rw[←hW1,qL _ _ b (by rw[jv];omega),qL _ _ b hb]
  have hl1:W1.heap[w.heap.size+1]? =some (rc.obj .ready none):=by
   rw[←hW1];have:=mn (w.alloc (.deferred (some []))) (rc.obj .ready none);rwa[jv]at this
  have hD1:W1.heap[w.heap.size]? =some (.deferred (some [])):=by
   rw[←hW1,qL _ _ _ (by rw[jv];omega)];exact mn w _
  refine⟨w.heap.size+1,[{ target:=.collected w.heap.size,args:= #[]}],W1,{ target:=.fn (.func f) lb,args:= #[yv]},W1,f,#[yv]++lb,W1,?_,?_,fun _ _=>trivial,?_,fun h=>(by cases h),?_⟩
  ·rw[←hW1];exact run_enterLoop_outer _ _ _ _ _
  ·simp only[resolve,hev];simp[go_sem,yv]
  ·simp[invoke,go_sem,hit.1]
  let own_s:Own:=fun i=>if i∈ids then(own i).map (fun hd=>{ hd with bs:=[]})else own i
  let F1:Nat→Prop:=fun b=>F b∨b=w.heap.size∨b=w.heap.size+1∨∃ i hd,i∈ids∧own i=some hd∧b∈hd.bs
  have hs1:∀ i hd,own_s i=some hd→∃ hd0,own i=some hd0∧hd0.like hd∧∀ b∈hd.bs,i ∉ ids∧hd=hd0:=fun i hd e=>by
   by_cases hi:i∈ids
   ·simp only[own_s,if_pos hi,Option.map_eq_some_iff]at e;obtain⟨hd0,e1,rfl⟩:=e;exact⟨hd0,e1,⟨rfl,rfl,rfl⟩,fun b hb=>by cases hb⟩
   ·simp only[own_s,if_neg hi]at e;exact⟨hd,e,.refl _,fun b _=>⟨hi,rfl⟩⟩
  have hs2:∀ i hd,own i=some hd→∃ hd',own_s i=some hd'∧hd.like hd':=fun i hd e=>by
   by_cases hi:i∈ids
   ·exact⟨{ hd with bs:=[]},by simp only[own_s,if_pos hi,e];rfl,⟨rfl,rfl,rfl⟩⟩
   ·exact⟨hd,by simp only[own_s,if_neg hi];exact e,.refl _⟩
  have hcar1:Carries F own w F1 own_s W1:=⟨hs2,fun b hb hn=>⟨by
   rintro ((hf|hf|hf| ⟨i,hd,_,e,hm⟩) | ⟨i,hd,e,hm⟩)
   ·exact hn (.inl hf)
   ·omega
   ·omega
   ·exact hn (.inr ⟨i,hd,e,hm⟩)
   ·obtain⟨hd0,e0,_,e1⟩:=hs1 i hd e;obtain⟨_,rfl⟩:=e1 b hm;exact hn (.inr ⟨i,hd,e0,hm⟩),hold b hb⟩⟩
  have hp1:Hp F1 own_s W1 (wu ids st.h):=by
   refine⟨fun i hd e=>?_,fun b hb=>?_,fun i hd b e hm hb=>?_,fun i j hi hj b e1 e2 h1 h2=>?_,fun i hd b e hm=>?_,fun i hdd=>?_⟩
   ·obtain⟨hd0,e0,_⟩:=hs1 i hd e;exact Nat.lt_of_lt_of_le (hr.hp.dom i hd0 e0) (x4 _ _)
   ·rcases hb with hf|hf|hf| ⟨i,hd,_,e,hm⟩
    ·have:=hr.hp.foreign b hf;omega
    ·omega
    ·omega
    ·have:=hr.hp.lt i hd b e hm;omega
   ·obtain⟨hd0,e0,_,e1⟩:=hs1 i hd e;obtain⟨hni,rfl⟩:=e1 b hm;have hlt:=hr.hp.lt i hd b e0 hm;rcases hb with hf|hf|hf| ⟨i2,hd2,h1,h2,h3⟩
    ·exact hr.hp.apart i hd b e0 hm hf
    ·omega
    ·omega
    ·exact hni (hr.hp.inj i i2 hd hd2 b e0 h2 hm h3▸h1)
   ·obtain⟨hd1,k1,_,k2⟩:=hs1 i hi e1;obtain⟨hd2,k3,_,k4⟩:=hs1 j hj e2;obtain⟨_,rfl⟩:=k2 b h1;obtain⟨_,rfl⟩:=k4 b h2;exact hr.hp.inj i j hi hj b k1 k3 h1 h2
   ·obtain⟨hd0,e0,_,e1⟩:=hs1 i hd e;obtain⟨_,rfl⟩:=e1 b hm;have:=hr.hp.lt i hd b e0 hm;omega
   ·rw[DQ st.h i ids st.h]at hdd ⊢;by_cases hi:i∈ids
    ·rw[if_pos hi]at hdd;cases hdd
    ·rw[if_neg hi]at hdd ⊢;obtain⟨hd,e1,e2⟩:=hr.hp.obs i hdd;exact⟨hd,by simp only[own_s,if_neg hi];exact e1,e2.carry hcar1 (by omega) fun b hm=>hold b (hr.hp.lt i hd b e1 hm)⟩
  obtain⟨q1,q2,q3,q4⟩:=Ip hsub0 hp1 hle0;change Hp F1 (gS js (Hx x0) own_s) W1 (Hx x0)at q1;generalize hown0:gS js (Hx x0) own_s=own_0 at q1 q2 q3 q4;have h0s:∀ i hd b,own_0 i=some hd→b∈hd.bs→∃ j,j ∉ ids∧own j=some hd:=fun i hd b e hm=>by
   rw[←hown0]at e;obtain⟨_,j,hd0,_,e2,_,e4⟩:=iw e;obtain⟨_,rfl⟩:=e4 b hm;obtain⟨hd1,k1,_,k2⟩:=hs1 j hd e2;obtain⟨k3,rfl⟩:=k2 b hm;exact⟨j,k3,k1⟩
  have hslot1:∀ t,Rel F1 own_0 W1 (lk t T) (a.tmps.getD t undef):=fun t=>by
   rcases AZ t _ hsub0.2.1 with e| ⟨e1,e2⟩
   ·rw[e];exact .any _
   ·have h1:=(hr.slots t).carry hcar1;have e1':lk t st.t=ren (AB js) 5 (lk t T):=e1;rw[e1']at h1;exact q3 F1 5 _ _ e2 h1
  let bs0:List Nat:=(w.heap.size+1)::PR own_0 (Hx x0).length
  have hbs0:∀ b,b∈bs0↔b=w.heap.size+1∨∃ i hd,own_0 i=some hd∧b∈hd.bs:=fun b=>by
   show b∈_::_↔_;rw[List.mem_cons,B9 q1.dom]
  let Ff:Nat→Prop:=fun b=>F b∨b=w.heap.size
  let own_f:Own:=fun i=>match i with|0=>some ⟨none,yv,[],bs0⟩ |i+1=>(ids[i]?).bind own
  have hf1:∀ i hd,own_f (i+1)=some hd→∃ j,ids[i]? =some j∧own j=some hd:=fun i hd e=>by
   have e':(ids[i]?).bind own=some hd:=e;rw[Option.bind_eq_some_iff]at e';exact e'
  have hffo:∀ b,bP Ff own_f b→(F b∨b=w.heap.size∨b=w.heap.size+1)∨∃ i hd,own i=some hd∧b∈hd.bs:=by
   rintro b ((hf|hf) | ⟨i,hd,e,hm⟩)
   ·exact .inl (.inl hf)
   ·exact .inl (.inr (.inl hf))
   ·cases i with
    |zero=>
     cases e;rcases(hbs0 b).1 hm with h| ⟨i,hd,e,hm⟩
     ·exact .inl (.inr (.inr h))
     ·obtain⟨j,_,k⟩:=h0s i hd b e hm;exact .inr ⟨j,hd,k,hm⟩
    |succ i=>obtain⟨j,_,k⟩:=hf1 i hd e;exact .inr ⟨j,hd,k,hm⟩
  let Fs:Nat→Prop:=fun b=>F b∨b=w.heap.size∨b=w.heap.size+1
  have hcar0:Carries F own w Fs own W1:=⟨fun _ hd e=>⟨hd,e,.refl _⟩,fun b hb hn=>⟨by
   rintro ((hf|hf|hf) |ho)
   ·exact hn (.inl hf)
   ·omega
   ·omega
   ·exact hn (.inr ho),hold b hb⟩⟩
  have hrn:Rn (Ix ids) own own_f:=⟨fun i j hd hm e=>by
   unfold Ix at hm;rw[Option.map_eq_some_iff]at hm;obtain⟨k,hk,rfl⟩:=hm;refine⟨hd,?_,.refl _⟩;show(ids[k]?).bind own=some hd;rw[qg ids i k hk];exact e⟩
  have hsh:∀ b,¬bP Fs own b→¬bP Ff own_f b:=fun b hn ho=>hn (hffo b ho);let F':Nat→Prop:=fun b=>bP Ff own_f b∧b ∉ bs0
  have hF'1:∀ b,Fw F' rc.l W1 b→F1 b:=by
   rintro b (⟨⟨ho,hn⟩,_⟩ |hb)
   ·rcases ho with(hf|hf) | ⟨i,hd,e,hm⟩
    ·exact .inl hf
    ·exact .inr (.inl hf)
    ·cases i with
     |zero=>cases e;exact absurd hm hn
     |succ i=>obtain⟨j,k1,k2⟩:=hf1 i hd e;exact .inr (.inr (.inr ⟨j,hd,List.mem_of_getElem? k1,k2,hm⟩))
   ·exact .inr (.inr (.inl hb))
  have hcarP:Carries F1 own_0 W1 (Fw F' rc.l W1) own_0 W1:=⟨fun _ hd e=>⟨hd,e,.refl _⟩,fun b _ hn=>⟨fun ho=>hn (ho.imp (hF'1 b) (fun e=>e)),rfl⟩⟩;have hpk:Pack rc T own st.h.length (Hx x0) (rc.obj .ready none) own_0 F' bs0 W1:=by
   refine⟨⟨q1.dom,fun b hb=>q1.foreign b (hF'1 b hb),fun i hd b e hm hb=>q1.apart i hd b e hm (hF'1 b hb),q1.inj,q1.lt,fun i hdd=>?_⟩,fun t=>(hslot1 t).carry hcarP,hbs0,fun i hd e=>?_,fun hf=>hf.2 ((hbs0 _).2 (.inl rfl)),hl1,hle0⟩
   ·obtain⟨hd,e1,e2⟩:=q1.obs i hdd;exact⟨hd,e1,e2.carry hcarP (Nat.le_refl _) fun _ _=>rfl⟩
   ·obtain⟨hd1,k1,l1⟩:=hs2 i hd e;obtain⟨hd2,k2,l2⟩:=q4 i hd1 (hr.hp.dom i hd e) k1;exact⟨hd2,k2,l1.trans l2⟩
  have hpf:Hp Ff own_f W1 (.ab (itR rc T own st.h.length Hx I S 1)::GF ids st.h):=by
   refine⟨fun i hd e=>?_,fun b hb=>?_,fun i hd b e hm hb=>?_,fun i j hi hj b e1 e2 h1 h2=>?_,fun i hd b e hm=>?_,fun i hdd=>?_⟩
   ·cases i with
    |zero=>simp
    |succ i=>
     obtain⟨j,k1,_⟩:=hf1 i hd e;have:=(List.getElem?_eq_some_iff.1 k1).1;simp[GF];exact this
   ·rcases hb with hf|hf
    ·have:=hr.hp.foreign b hf;omega
    ·omega
   ·have hnot:∀ i hd,own i=some hd→b∈hd.bs→False:=fun i hd e hm=>by
     rcases hb with hf|hf
     ·exact hr.hp.apart i hd b e hm hf
     ·have:=hr.hp.lt i hd b e hm;omega
    cases i with
    |zero=>
     cases e;rcases(hbs0 b).1 hm with h| ⟨i,hd,e,hm⟩
     ·rcases hb with hf|hf
      ·have:=hr.hp.foreign b hf;omega
      ·omega
     ·obtain⟨j,_,k⟩:=h0s i hd b e hm;exact hnot j hd k hm
    |succ i=>obtain⟨j,_,k⟩:=hf1 i hd e;exact hnot j hd k hm
   ·have hmix:∀ i hd,own_f (i+1)=some hd→b∈hd.bs→b∈bs0→False:=fun i hd e hm h0=>by
     obtain⟨j,k1,k2⟩:=hf1 i hd e;rcases(hbs0 b).1 h0 with h| ⟨i2,hd2,e2,hm2⟩
     ·have:=hr.hp.lt j hd b k2 hm;omega
     ·obtain⟨j2,k3,k4⟩:=h0s i2 hd2 b e2 hm2;exact k3 (hr.hp.inj j2 j hd2 hd b k4 k2 hm2 hm▸List.mem_of_getElem? k1)
    cases i with
    |zero=>
     cases j with
     |zero=>rfl
     |succ j=>cases e1;exact(hmix j hj e2 h2 h1).elim
    |succ i=>
     cases j with
     |zero=>cases e2;exact(hmix i hi e1 h1 h2).elim
     |succ j=>
      obtain⟨k,k1,k2⟩:=hf1 i hi e1;obtain⟨k',k3,k4⟩:=hf1 j hj e2;have:=hr.hp.inj k k' hi hj b k2 k4 h1 h2;subst this;rw[se hnd k1 k3]
   ·rcases hffo b (.inr ⟨i,hd,e,hm⟩)with(h|h|h) | ⟨j,hd2,k,hm2⟩
    ·have:=hr.hp.foreign b h;omega
    ·omega
    ·omega
    ·have:=hr.hp.lt j hd2 b k hm2;omega
   ·cases i with
    |zero=>exact⟨_,rfl,rfl,x0,own_0,hI0,hpk⟩
    |succ i=>
     have hob:aj (.ab (itR rc T own st.h.length Hx I S 1)::GF ids st.h) (i+1)=aj (GF ids st.h) i:=rfl;rw[hob]at hdd ⊢;rw[qA]at hdd ⊢;unfold GF at hdd ⊢;rw[List.getElem?_map]at hdd ⊢;cases hi:ids[i]? with
     |none=>rw[hi]at hdd;simp[cF]at hdd
     |some j=>
      rw[hi]at hdd;simp only[Option.map_some,Option.getD_some]at hdd ⊢;rw[u_]at hdd;obtain⟨hd,e1,e2⟩:=hr.hp.obs j hdd;refine⟨hd,by show(ids[i]?).bind own=some hd;rw[hi];exact e1,?_⟩;have e3:ObRel Fs own W1 hd (aj st.h j):=e2.carry hcar0 (by omega) fun b hm=>hold b (hr.hp.lt j hd b e1 hm);refine BP hrn hsh (fun b _ ho=>?_) e3;rcases hffo b ho with h|h
      ·exact .inl h
      ·exact .inr h
  have hvs:RelL Ff own_f W1 (.os 0::caps.map (ren (Ix ids) 3)) (#[yv]++lb):=by
   refine⟨by simp[e2];omega,fun j s hj=>?_⟩;cases j with
   |zero=>
    simp at hj;subst hj;have:(#[yv]++lb).getD 0 undef=yv:=by simp only[Array.getD_eq_getD_getElem?];rw[Array.getElem?_append_left (by simp)];rfl
    rw[this];exact Rel.os (hd:=⟨none,yv,[],bs0⟩) rfl rfl
   |succ j=>
    simp only[List.getElem?_cons_succ]at hj;obtain⟨s0,k1,rfl⟩:=bW hj;have:(#[yv]++lb).getD (j+1) undef=lb.getD j undef:=by
     simp only[Array.getD_eq_getD_getElem?];rw[Array.getElem?_append_right (by simp)];simp
    rw[this];exact AW hrn hsh 3 s0 _ ((e4 j s0 k1).carry hcar0)
  refine CallsIn.mono (pb (hit.2 (itR rc T own st.h.length Hx I S) (fun k=>(RX k).1) (TK hm hts hG hr.size (fun i hd e=>hr.hp.dom i hd e) hpn hpN hca hcb hround) Ff own_f W1 _ hpf hvs)) ?_;rintro e w3 ⟨u,own',j,h',rfl,hj,hp3,fr3⟩;obtain⟨hd0,e0,hv0,hR⟩:=hp3.obs 0 rfl;have hl3:∀ {y own_e o},Pack rc T own st.h.length (Hx y) o own_e (fun b=>bP Ff own' b∧b ∉ hd0.bs) hd0.bs w3→w3.heap[w.heap.size+1]? =some o:=fun pk=>pk.rcd;have fin:∀ y own_e s p,Pack rc T own st.h.length (Hx y) (rc.obj s p) own_e (fun b=>bP Ff own' b∧b ∉ hd0.bs) hd0.bs w3→
    StRel Fs w0 N own_e ⟨T,Hx y⟩ { a with defers:=[{ target:=.collected w.heap.size,args:= #[]}]++a.defers} (w3.putObj (w.heap.size+1) (rc.obj .exhausted p)):=by
   intro y own_e s p pk;have hsz3:=fr3.size;have hsz3':W1.heap.size≤w3.heap.size:=hsz3;have hl3s:w.heap.size+1<w3.heap.size:=by omega
   have hoth:∀ c,c≠w.heap.size+1→(w3.putObj (w.heap.size+1) (rc.obj .exhausted p)).heap[c]? =w3.heap[c]?:=fun c hc=>World.putObj_heap_other hc;have hownE:∀ i hd b,own_e i=some hd→b∈hd.bs→b∈hd0.bs∧b≠w.heap.size+1:=fun i hd b e hm=>⟨(pk.bs b).2 (.inr ⟨i,hd,e,hm⟩),fun e'=>pk.hp.apart i hd b e hm (.inr e')⟩;have hnF:∀ b,b∈hd0.bs→¬Ff b:=fun b hb hf=>hp3.apart 0 hd0 b e0 hb hf;have hFsFw:∀ b,Fs b→Fw (fun b=>bP Ff own' b∧b ∉ hd0.bs) rc.l w3 b:=fun b hb=>by
    rcases hb with hf|hf|hf
    ·exact .inl ⟨⟨.inl (.inl hf),fun hm=>hnF b hm (.inl hf)⟩,hp3.foreign b (.inl hf)⟩
    ·exact .inl ⟨⟨.inl (.inr hf),fun hm=>hnF b hm (.inr hf)⟩,hp3.foreign b (.inr hf)⟩
    ·exact .inr hf
   have hcarE:Carries (Fw (fun b=>bP Ff own' b∧b ∉ hd0.bs) rc.l w3) own_e w3 Fs own_e (w3.putObj (w.heap.size+1) (rc.obj .exhausted p)):=⟨fun _ hd e=>⟨hd,e,.refl _⟩,fun b _ hn=>⟨fun ho=>hn (ho.imp (hFsFw b) (fun e=>e)),hoth b fun e=>hn (.inl (.inr e))⟩⟩;have hkeep:∀ b,b<w.heap.size→(¬ ∃ i hd,own i=some hd∧b∈hd.bs)→w3.heap[b]? =w.heap[b]?:=fun b hb hn=>by
    rw[fr3.block b ⟨by show b<W1.heap.size;omega,fun⟨i,hd,e,hm⟩ =>?_⟩]
    ·exact hold b hb
    ·cases i with
     |zero=>
      cases e;rcases(hbs0 b).1 hm with h| ⟨i,hd,e,hm⟩
      ·omega
      ·obtain⟨j,_,k⟩:=h0s i hd b e hm;exact hn ⟨j,hd,k,hm⟩
     |succ i=>obtain⟨j,_,k⟩:=hf1 i hd e;exact hn ⟨j,hd,k,hm⟩
   have hD3:w3.heap[w.heap.size]? =some (.deferred (some [])):=by
    rw[fr3.block w.heap.size ⟨by show w.heap.size<W1.heap.size;omega,fun⟨i,hd,e,hm⟩ =>hpf.apart i hd _ e hm (.inr rfl)⟩];exact hD1
   refine⟨hr.size,?_,⟨pk.hp.dom,fun b hb=>?_,fun i hd b e hm hb=>pk.hp.apart i hd b e hm (hFsFw b hb),pk.hp.inj,fun i hd b e hm=>by have:=pk.hp.lt i hd b e hm;simpa using this,fun i hdd=>?_⟩,hr.fr.trans ⟨pk.ids,fun i hd b e hm ho=>?_,fr3.os.trans (by rw[←hW1];rfl),fr3.tape.trans (by rw[←hW1];rfl),fr3.output.trans (by rw[←hW1];rfl),by simp;omega,fun b hb=>?_⟩,fun t=>(pk.slots t).carry hcarE⟩
   ·obtain⟨ms,Ds,k0,k1,k2,k3⟩:=hr.defers;refine⟨{ target:=.collected w.heap.size,args:= #[]}::ms,w.heap.size::Ds,by simp[k0],by simp[k1],List.nodup_cons.2 ⟨fun hm=>?_,k2⟩,fun D hD=>?_⟩
    ·have:=ni (k3 _ hm).2.2;omega
    ·rcases List.mem_cons.1 hD with rfl|hD
     ·exact⟨hr.fr.size,.inr (.inl rfl),by rw[hoth _ (by omega)];exact hD3⟩
     ·obtain⟨m1,m2,m3⟩:=k3 D hD;have hlt:=ni m3;exact⟨m1,.inl m2,by rw[hoth _ (by omega),hkeep D hlt fun⟨i,hd,e,hm⟩ =>hr.hp.apart i hd D e hm m2];exact m3⟩
   ·have:=pk.hp.foreign b (hFsFw b hb);simpa using this
   ·obtain⟨hd,e1,e2⟩:=pk.hp.obs i hdd;exact⟨hd,e1,e2.carry hcarE (by simp) fun b hm=>hoth b (hownE i hd b e1 hm).2⟩
   ·have h1:=fr3.base 0 hd0 b e0 (hownE i hd b e hm).1;refine h1 ⟨by show b<W1.heap.size;have:=ho.1;change b<w.heap.size at this;omega,fun⟨i2,hd2,e2,hm2⟩ =>?_⟩;cases i2 with
    |zero=>
     cases e2;rcases(hbs0 b).1 hm2 with h| ⟨i3,hd3,e3,hm3⟩
     ·exact(hownE i hd b e hm).2 h
     ·obtain⟨j,_,k⟩:=h0s i3 hd3 b e3 hm3;exact ho.2 ⟨j,hd3,k,hm3⟩
    |succ i2=>obtain⟨j,_,k⟩:=hf1 i2 hd2 e2;exact ho.2 ⟨j,hd2,k,hm2⟩
   ·have hblt:b<w.heap.size:=hb.1;rw[hoth b (by omega)];exact hkeep b hblt hb.2
  have fin2:∀ y own_e s p ex,Pack rc T own st.h.length (Hx y) (rc.obj s p) own_e (fun b=>bP Ff own' b∧b ∉ hd0.bs) hd0.bs w3→PS lc st.h.length ex ⟨T,Hx y⟩→
    ∃ F3 own3 st3,(∀ b,F b→F3 b)∧StRel F3 w0 N own3 st3 { a with defers:=[{ target:=.collected w.heap.size,args:= #[]}]++a.defers} (w3.putObj (w.heap.size+1) (rc.obj .exhausted p))∧∃ r,lc.post r∧ex=lc.ex r∧st3=lc.out r:=by
   rintro y own_e s p ex pk ⟨r,js2,m1,m2,m3,m4⟩;exact⟨Fs,_,_,fun b hb=>.inl hb,(fin y own_e s p pk).sub m4 hr.base_lt m3,r,m1,m2.symm,rfl⟩
  rcases hj with rfl|rfl
  ·obtain⟨ex,y,own_e,hS,hjm,pk⟩:=hR;refine⟨Iw ex,_,run_endLoop (P:=P) (hl3 pk) (by simp[LRec.obj]),?_⟩;cases ex with
   |normal=>cases hjm
   |pan x=>cases hjm
   |ret=>exact wpIn_ret (fin2 y own_e _ _ .ret pk (hRet y hS))
   |exit jj=>
    refine wpIn_exit ?_;have h2:=fin2 y own_e _ _ _ pk (hEx jj y hS);show if jj=id then _ else _;by_cases hjj:jj=id
    ·rw[if_pos hjj]at h2 ⊢;exact h2
    ·rw[if_neg hjj]at h2 ⊢;exact h2
  ·obtain⟨y,own_e,hIy,pk⟩:=hR;exact⟨none,_,run_endLoop (P:=P) (hl3 pk) (by simp[LRec.obj]),fin2 y own_e _ _ .normal pk (hN y hIy)⟩
end
def okI {ρ σ:Type}(step:Nat→σ→ρ⊕σ)(p:Nat→σ→Prop):Nat→Nat→σ→Prop
 |0,_,_=>True
 |n+1,i,s=>p i s∧∀ s',step i s=.inr s'→okI step p n (i+1) s'
theorem nr {ρ σ:Type}{step:Nat→σ→ρ⊕σ}{p:Nat→σ→Prop}:∀ (n i:Nat) (s:σ),(∀ j s,i≤j→j<i+n→p j s)→okI step p n i s
 |0,_,_,_=>trivial
 |n+1,i,s,h=>⟨h i s (Nat.le_refl _) (by omega),fun s' _=>nr n (i+1) s' fun j s h1 h2=>h j s (by omega) (by omega)⟩
theorem A0 {ρ σ:Type}{step:Nat→σ→ρ⊕σ}{p:Nat→σ→Prop}(J:Nat→σ→Prop):∀ (n i:Nat) (s:σ),J i s→(∀ j s,i≤j→j<i+n→J j s→p j s∧∀ s',step j s=.inr s'→J (j+1) s')→okI step p n i s
 |0,_,_,_,_=>trivial
 |n+1,i,s,h0,h=>⟨(h i s (Nat.le_refl _) (by omega) h0).1,fun s' hs=>A0 J n (i+1) s' ((h i s (Nat.le_refl _) (by omega) h0).2 s' hs) fun j s h1 h2=>h j s (by omega) (by omega)⟩
section
variable {P:Program}{ρ σ:Type}
def GH (D:Nat→σ→St)(js:List Nat)(n0 k:Nat)(st:St):ρ⊕σ→Prop
 | .inl _=>False
 | .inr s'=>n0≤(D (k+1) s').h.length∧Sub js n0 st (D (k+1) s')
def exQ (exE:ρ→Ex)(outE:ρ→St)(js:List Nat)(n0:Nat)(e:Ex)(st:St):ρ⊕σ→Prop
 | .inl x=>exE x=e∧n0≤(outE x).h.length∧Sub js n0 st (outE x)
 | .inr _=>False
def cQ (step:Nat→σ→ρ⊕σ)(n:Nat)(exE:ρ→Ex)(outE:ρ→St)(outN:σ→St)(D:Nat→σ→St)(js:List Nat)(n0 id k:Nat)(s:σ):Ex→St→Prop
 | .normal,st=>k<n∧GH D js n0 k st (step k s)
 | .exit j,st=>bif Nat.beq j id then(n≤k→n0≤(outN s).h.length∧Sub js n0 st (outN s))∧(k<n→exQ exE outE js n0 .normal st (step k s))else k<n∧exQ exE outE js n0 (.exit j) st (step k s)
 | .ret,st=>k<n∧exQ exE outE js n0 .ret st (step k s)
 | .pan x,st=>k<n∧exQ exE outE js n0 (.pan x) st (step k s)
variable {step:Nat→σ→ρ⊕σ}{n n0 id k j:Nat}{exE:ρ→Ex}{outE:ρ→St}{outN:σ→St}{D:Nat→σ→St}{js:List Nat}{s s':σ}{st:St}{x:Value}{e:Ex}{y:ρ}
@[go_sem] theorem V6:GH (ρ:=ρ) D js n0 k st (.inr s')=(n0≤(D (k+1) s').h.length∧Sub js n0 st (D (k+1) s')):=(rfl)
@[go_sem] theorem ZY:exQ (σ:=σ) exE outE js n0 e st (.inl y)=(exE y=e∧n0≤(outE y).h.length∧Sub js n0 st (outE y)):=(rfl)
@[go_sem] theorem V7:cQ step n exE outE outN D js n0 id k s .normal st=(k<n∧GH D js n0 k st (step k s)):=(rfl)
@[go_sem] theorem ZZ:cQ step n exE outE outN D js n0 id k s (.exit j) st=bif Nat.beq j id then(n≤k→n0≤(outN s).h.length∧Sub js n0 st (outN s))∧(k<n→exQ exE outE js n0 .normal st (step k s))else k<n∧exQ exE outE js n0 (.exit j) st (step k s):=(rfl)
@[go_sem] theorem aaF:cQ step n exE outE outN D js n0 id k s .ret st=(k<n∧exQ exE outE js n0 .ret st (step k s)):=(rfl)
@[go_sem] theorem aaG:cQ step n exE outE outN D js n0 id k s (.pan x) st=(k<n∧exQ exE outE js n0 (.pan x) st (step k s)):=(rfl)
@[congr] theorem RY {r r':ρ⊕σ}(h:r=r'):GH D js n0 k st r=GH D js n0 k st r':=by rw[h]
@[congr] theorem V8 {r r':ρ⊕σ}(h:r=r'):exQ exE outE js n0 e st r=exQ exE outE js n0 e st r':=by rw[h]
@[congr] theorem XS {st st':St}{e e':Ex}(h:st=st')(he:e=e'):cQ step n exE outE outN D js n0 id k s e st=cQ step n exE outE outN D js n0 id k s e' st':=by rw[h,he]
theorem Le {ts:Tis}{G:Cons}{ro:Option Nat}{N:Nat}(hm:P.follows .mixedOrders=true)(hts:ts.ok P)(hG:ConsOk P G){id:Nat}{c:Code}(hc:bO N c=true){C:St→Option LCon}
  (h:∀ st lc,C st=some lc→lc.pre→∃ (ρ σ:Type) (pre:Prop) (step:Nat→σ→ρ⊕σ) (p:Nat→σ→Prop) (n:Nat) (s0:σ) (exE:ρ→Ex) (outE:ρ→St) (outN:σ→St) (D:Nat→σ→St) (js:List Nat),
   lc=LC pre (aq step n 0 s0) exE outE outN∧okI step p n 0 s0∧st.h.length≤(D 0 s0).h.length∧Sub js st.h.length st (D 0 s0)∧
   ∀ k s,k≤n→(k<n→p k s)→∃ L,am P ro N L c∧exec ts G L c (D k s) (cQ step n exE outE outN D js st.h.length id k s)):kG P ro N id (.loop c) C:=by
 refine GA hm hts hG hc fun st lc hC hp=>?_;obtain⟨ρ,σ,pre,step,p,n,s0,exE,outE,outN,D,js,rfl,h1,h2,h3,h4⟩:=h st lc hC hp;refine⟨Nat×σ,fun x=>D x.1 x.2,fun x=>x.1≤n∧okI step p (n - x.1) x.1 x.2∧aq step (n - x.1) x.1 x.2=aq step n 0 s0,fun x=>n - x.1,(0,s0),js,⟨Nat.zero_le _,by simpa using h1,by simp⟩,h2,h3,?_⟩;rintro⟨k,s⟩ ⟨hk,hJ,hrun⟩;simp only at hk hJ hrun;obtain⟨L,hl,hex⟩:=h4 k s hk (fun hlt=>by
  rw[show n - k=(n - k - 1)+1 by omega]at hJ;exact hJ.1)
 refine⟨L,_,hl,?_,hex⟩;have hfin:∀ e st',k<n→exQ exE outE js st.h.length e st' (step k s)→∃ r js,(LC pre (aq step n 0 s0) exE outE outN).post r∧(LC pre (aq step n 0 s0) exE outE outN).ex r=e∧st.h.length≤((LC pre (aq step n 0 s0) exE outE outN).out r).h.length∧Sub js st.h.length st' ((LC pre (aq step n 0 s0) exE outE outN).out r):=by
  intro e st' hlt q;cases hs:step k s with
  |inr s'=>rw[hs]at q;exact q.elim
  |inl x=>
   rw[hs]at q;obtain⟨q2,q3,q4⟩:=q;rw[show n - k=(n - k - 1)+1 by omega]at hrun;simp only[aq,hs]at hrun;exact⟨.inl x,js,hrun,q2,q3,q4⟩
 intro e st' hq;cases e with
 |normal=>
  obtain⟨q1,q2⟩:=hq;cases hs:step k s with
  |inl x=>rw[hs]at q2;exact q2.elim
  |inr s'=>
   rw[hs]at q2;rw[show n - k=(n - (k+1))+1 by omega]at hrun hJ;simp only[aq,hs]at hrun;exact⟨(k+1,s'),js,⟨q1,hJ.2 s' hs,hrun⟩,by simp only;omega,q2.1,q2.2⟩
 |exit j=>
  have hq':(bif Nat.beq j id then(n≤k→st.h.length≤(outN s).h.length∧Sub js st.h.length st' (outN s))∧(k<n→exQ exE outE js st.h.length .normal st' (step k s))else k<n∧exQ exE outE js st.h.length (.exit j) st' (step k s)):=hq;show bif Nat.beq j id then _ else _;cases hb:Nat.beq j id with
  |true=>
   rw[hb]at hq';simp only[cond_true]at hq' ⊢;by_cases hlt:k<n
   ·exact hfin _ _ hlt (hq'.2 hlt)
   ·obtain⟨q3,q4⟩:=hq'.1 (by omega);have hkn:k=n:=by omega
    subst hkn;simp only[Nat.sub_self,aq]at hrun;exact⟨.inr s,js,hrun,rfl,q3,q4⟩
  |false=>rw[hb]at hq';exact hfin _ _ hq'.1 hq'.2
 |ret=>exact hfin _ _ hq.1 hq.2
 |pan x=>exact hfin _ _ hq.1 hq.2
end
def dL {ρ σ:Type}[Inhabited σ]:ρ⊕σ→σ| .inr s=>s| .inl _=>default
def fD {ρ σ:Type}[Inhabited ρ]:ρ⊕σ→ρ| .inl s=>s| .inr _=>default
@[go_sem] theorem M5 {ρ σ:Type}[Inhabited σ]{s:σ}:dL (ρ:=ρ) (.inr s)=s:=(rfl)
@[go_sem] theorem M6 {ρ σ:Type}[Inhabited ρ]{s:ρ}:fD (σ:=σ) (.inl s)=s:=(rfl)
theorem M7 {k:Nat}{n:Int}(h:k<n.toNat)(hn:n<9223372036854775808):i64.wrap ((k:Int)+1)=((k+1:Nat):Int):=by
 rw[f8 (by omega) (by omega)];omega
def tP (pks:List Pk):SV→SV
 | .tup l=>.tup (bv pks l)
 |s=>match pks with| [p] =>zo p s|_=>s
section
variable {F:Nat→Prop}{own:Own}{w:World}
theorem wv {pks:List Pk}{s:SV}{v:Value}(h:Rel F own w s v):Rel F own w (tP pks s) v:=by
 unfold tP;split
 ·cases h with
  |tup h0 h1=>
   refine .tup (by rw[B6];exact h0) fun j s hj=>?_;obtain⟨s0,e1,e2| ⟨p,e2⟩⟩:=B7 _ _ _ _ hj
   ·subst e2;exact h1 j _ e1
   ·subst e2;exact B5 (h1 j _ e1)
 ·split
  ·exact B5 h
  ·exact h
@[go_sem] theorem XT {pks:List Pk}{l:List SV}:tP pks (.tup l)=.tup (bv pks l):=(rfl)
@[go_sem] theorem XU {p:Pk}{l:List SV}:tP [p] (.agg l)=zo p (.agg l):=(rfl)
@[go_sem] theorem aaH {p:Pk}{x:Value}:tP [p] (.v x)=zo p (.v x):=(rfl)
@[go_sem] theorem Z0 {p:Pk}{k:Tag}{l:List k.T}:tP [p] (.rs k l)=zo p (.rs k l):=(rfl)
@[go_sem] theorem Z1 {p:Pk}{k k2:Tag}{l:List (k.T×k2.T)}:tP [p] (.rm k k2 l)=zo p (.rm k k2 l):=(rfl)
@[go_sem] theorem Z2 {p:Pk}:tP [p] .e0=zo p .e0:=(rfl)
end
section
variable {P:Program}{ts:Tis}{G:Cons}
theorem av (pks:List Pk) (hm:P.follows .mixedOrders=true) (hts:ts.ok P) (hG:ConsOk P G) {f:FuncId} {fn:Func} {c:Code} (hf:P.funcs[f]? =some fn) (hb:fn.body=some c) (hname:(fn.name== "runtime.NumGoroutine")=false)
  (hc:bO fn.ntmps c=true) {C:List SV→Option Con}
  (h:∀ l con,C l=some con→ar con→l.length≤fn.ntmps∧∃ L,am P none fn.ntmps L c∧exec ts G L c ⟨lf 0 l,[]⟩ (FU false fn.results.toList ts (fun s=>da con (tP pks s)) (mr con))):FnOk P f C:=by
 refine⟨fun l con _ args w=>?_,fun l con hcon hpre F w vs hF hvs=>?_⟩
 ·have hn:¬fn.name= "runtime.NumGoroutine":=by simpa using hname
  simp[callFunc,hf,hn,hb]
 ·obtain⟨hlen,L,hl,hx⟩:=h l con hcon hpre;refine mt (n:=0) (callsIn_of_wp_marks hf hb trivial ?_);have hr:StRel F { w:=w,own:=b_} fn.ntmps b_ ⟨lf 0 l,[]⟩ { tmps:=vs++Array.replicate (fn.ntmps - vs.size) undef,defers:=[]} w:=
   ⟨by have:=hvs.1;simp;omega,Dfr.nil,vb hF,Fr.refl _,fun t=>kz hvs _ t⟩
  refine wpIn_mono (lX hm hts hG c hc hl F _ _ hx b_ _ w hr) ?_;intro e a' w' hq;have key:∀ F1 own st,(∀ b,F b→F1 b)→StRel F1 { w:=w,own:=b_} fn.ntmps own st a' w'→ee (fun s=>da con (tP pks s)) (xS false fn.results.toList ts st)→LeavesInM (rd none) 0 P fn a'.tmps
    (fun e w'=>(∃ s u own',da con s∧e=.returned u∧Handed F w own' w' s u∧Below w.heap.size w w')∨(∃ x,mr con x∧e=.panicked [{ v:=x,recovered:=false}]∧Below w.heap.size w w')) a'.defers .returning w':=by
   intro F1 own st hF1 hst hdone;refine iF hst (by simp) fun w2 hst2=>?_;have hst3:=hst2.less hF1 rfl;simp only[xS,cond_false,wd]at hdone;cases hs:ku (ju ts st fn.results.toList)with
   |none=>rw[hs]at hdone;exact hdone.elim
   |some s=>
    obtain⟨u,e1,e2⟩:=tw (P:=P) hts hst3 hs;refine⟨u,e1,.inl ?_⟩;rw[hs]at hdone;exact⟨_,u,b_,hdone,rfl,tx hst3.hp.foreign (wv (u9 hst3.hp 4 s u e2)),pc hst3.fr⟩
  cases e with
  |normal=>obtain⟨F1,own,st,h0,h1,h2⟩:=hq;exact key F1 own st h0 h1 h2
  |ret=>obtain⟨F1,own,st,h0,h1,h2⟩:=hq;exact key F1 own st h0 h1 h2
  |exit id=>obtain⟨F1,own,st,h0,h1,h2⟩:=hq;exact h2.elim
  |panic ch=>
   obtain⟨x,F1,own,st,h0,h1,h2,rfl⟩:=hq;exact iF h1 (by simp) fun w2 hst2=>.inr ⟨x,h2,rfl,pc hst2.fr⟩
  |_=>exact hq.elim
end
theorem ve {o:Ob}(ho:Jd o=false):∀ (h:List Ob) (i:Nat),lE h=false→lE (bf h i o)=false
 | [],0,_=>by simp[bf,lE,ho]
 | [],n+1,_=>by simp[bf,lE,Jd,ve ho [] n rfl]
 |a::r,0,h=>by simp only[lE,Bool.or_eq_false_iff]at h;simp[bf,lE,ho,h.2]
 |a::r,n+1,h=>by simp only[lE,Bool.or_eq_false_iff]at h;simp[bf,lE,h.1,ve ho r n h.2]
def GI (P:Program)(g:FuncId)(C:Value→Option SV):Prop:=
 (∀ (args:Array Value) (w:World),(callFunc g args).run P w=.ok (.enter g args) w)∧
 (∀ (p:Addr) (w:World),CallsDIn (rd none) 0 P g #[.pointer (some p)] .returning w (fun e u' w'=>(∃ v,e=.returned v)∧u'=.returning∧w'=w))∧
 ∀ (x:Value) (s:SV),C x=some s→∀ (F:Nat→Prop) (own:Own) (w:World) (h:List Ob) (id:Nat) (hd:Hd) (b:Nat) (y:SV),lE h=false→Hp F own w h→aj h id=.cells [y]→own id=some hd→hd.p=some b→
  CallsDIn (rd none) 0 P g #[.pointer (some ⟨b,0,none⟩)] (.panicking [{ v:=x,recovered:=false}]) w (fun e u' w'=>(∃ v,e=.returned v)∧u'=.panicking [{ v:=x,recovered:=true}]∧∃ own',Hp F own' w' (bf h id (.cells [s]))∧Fr { w:=w,own:=own} own' w')
section
variable {P:Program}{ts:Tis}{G:Cons}
theorem EX {n:Nat}{g:FuncId}{i1 t3 q:Nat}{o1 o2:Oper}{tys:Array TypeId}{Q:Exit→Act→World→Prop}{a:Act}{w:World}{b:Nat}
  (ho1:o1.dst=some t3∧o1.op=.makeFunc (.func g) #[] #[.tmp q]∧o1.guard=none) (ho2:o2.dst=none∧o2.op=.defer ⟨.value (.tmp t3),#[],tys⟩∧o2.guard=none)
  (hq:a.tmps.getD q undef=.pointer (some ⟨b,0,none⟩)) (ht3:t3<a.tmps.size)
  (h:Q .normal { tmps:=a.tmps.setIfInBounds t3 (.func (.func g) #[] #[.pointer (some ⟨b,0,none⟩)]),defers:= { target:=.fn (.func g) #[.pointer (some ⟨b,0,none⟩)],args:= #[]}::a.defers} w):
  (Code.region i1 #[o1,o2] false).wpIn (rd none) n P Q a w:=by
 obtain⟨d1,p1,t1,s1,f1,g1⟩:=o1;obtain⟨d2,p2,t2,s2,f2,g2⟩:=o2;obtain⟨rfl,rfl,rfl⟩:=ho1;obtain⟨rfl,rfl,rfl⟩:=ho2;refine wpIn_region ?_;have hget:(a.tmps.setIfInBounds t3 (.func (.func g) #[] #[.pointer (some ⟨b,0,none⟩)])).getD t3 undef=.func (.func g) #[] #[.pointer (some ⟨b,0,none⟩)]:=by
  simp[Array.getD_eq_getD_getElem?,ht3]
 have hr1:List.range (#[(⟨some t3,.makeFunc (.func g) #[] #[.tmp q],t1,s1,f1,none⟩:Oper),(⟨none,.defer ⟨.value (.tmp t3),#[],tys⟩,t2,s2,f2,none⟩:Oper)]:Array Oper).size=[0,1]:=rfl;rw[hr1];simp only[wpOpsIn,Oper.wpIn,Region.wanted];have e1:(#[(⟨some t3,.makeFunc (.func g) #[] #[.tmp q],t1,s1,f1,none⟩:Oper),(⟨none,.defer ⟨.value (.tmp t3),#[],tys⟩,t2,s2,f2,none⟩:Oper)]:Array Oper)[0]? =some ⟨some t3,.makeFunc (.func g) #[] #[.tmp q],t1,s1,f1,none⟩:=rfl;have e2:(#[(⟨some t3,.makeFunc (.func g) #[] #[.tmp q],t1,s1,f1,none⟩:Oper),(⟨none,.defer ⟨.value (.tmp t3),#[],tys⟩,t2,s2,f2,none⟩:Oper)]:Array Oper)[1]? =some ⟨none,.defer ⟨.value (.tmp t3),#[],tys⟩,t2,s2,f2,none⟩:=rfl;rw[e1,e2];simp only[if_true];refine⟨fun _ _=>trivial,?_⟩;have r1:((⟨some t3,.makeFunc (.func g) #[] #[.tmp q],t1,s1,f1,none⟩:Oper).semAt (rd none).round a.eval).run P w=.ok (.value (.func (.func g) #[] #[.pointer (some ⟨b,0,none⟩)])) w:=by
  simp[Oper.semAt,execOp,go_sem,Act.eval,hq];try rfl
 rw[r1];simp only[Oper.uponIn_value];refine⟨fun _ _=>trivial,?_⟩;have r2:((⟨none,.defer ⟨.value (.tmp t3),#[],tys⟩,t2,s2,f2,none⟩:Oper).semAt (rd none).round (a.put (some t3) (.func (.func g) #[] #[.pointer (some ⟨b,0,none⟩)])).eval).run P w=.ok (.defer { target:=.fn (.func g) #[.pointer (some ⟨b,0,none⟩)],args:= #[]}) w:=by
  simp[Oper.semAt,execOp,go_sem,Act.eval,Act.put,hget];try rfl
 rw[r2];simp only[Oper.uponIn_defer];exact h
theorem vg {F:Nat→Prop}{w0:Bs}{ro:Option Nat}{nd N:Nat}(hm:P.follows .mixedOrders=true)(hts:ts.ok P)(hG:ConsOk P G){id:Nat}{ops:Array Oper}(hc:bO N (.region id ops false)=true){st:St}{Q:St→Prop}{L:uk}(hx:exec ts G L (.region id ops false) st (fun e st=>e=.normal∧Q st))
  {own:Own} {a:Act} {w:World} (hr:StRel F w0 N own st a w):(Code.region id ops false).wpIn (rd ro) nd P (fun e a w=>e=.normal∧∃ own st,StRel F w0 N own st a w∧Q st) a w:=by
 have hx':Bu (Ae ts G ops false st) (fun e st=>e=.normal∧Q st) (L (id+2000000) st):=hx;have key:∀ Q:Ex→St→Prop,(∀ x st,¬Q (.pan x) st)→Ae ts G ops false st Q→(Code.region id ops false).wpIn (rd ro) nd P (fun e a w=>e=.normal∧∃ own st,StRel F w0 N own st a w∧Q .normal st) a w:=by
  intro Q hpan hx';simp only[bO,Bool.and_eq_true]at hc;obtain⟨h1,h2⟩:=hc;have hrok:=Mz h1;obtain⟨l⟩:=ops;have hx':i7 ts G l l st (fun st'=>Q .normal (wc l st')) (fun x st'=>Q (.pan x) st'):=hx';refine wpIn_region_list ?_;exact H_ (K:=fun st'=>Q .normal (wc l st')) (Z:=fun x st'=>Q (.pan x) st') hts hG hrok (fun x own st a w h1 h2=>(hpan x _ h2).elim) l 0 own st a w rfl (hr.start l fun k hk=>by omega) hx' fun own st a w hi hk=>⟨rfl,own,_,StRel.finish hi,hk⟩
 cases hlc:L (id+2000000) st with
 |none=>
  rw[hlc]at hx';refine wpIn_mono (key (fun e st=>e=.normal∧Q st) (fun x st h=>(by cases h.1)) hx') fun e a w ⟨h1,own,st,h2,h3⟩ =>⟨h1,own,st,h2,h3.2⟩
 |some lc=>
  rw[hlc]at hx';refine wpIn_mono (key (WN lc fun e st=>e=.normal∧Q st) (fun x st h=>(by have h:Ex.pan x=.normal∧Q st:=h;cases h.1)) hx'.1) fun e a w ⟨h1,own,st,h2,r,h3,h4,h5⟩ =>⟨h1,own,_,h2.subJ h4 h5,(hx'.2 r h3).2⟩
def C3:Ob→Prop
 | .cells [_] =>True
 |_=>False
theorem B_ {o:Ob}(h:C3 o):∃ y,o=.cells [y]:=by
 unfold C3 at h;split at h
 ·exact⟨_,rfl⟩
 ·exact h.elim
def M8 (rs:List ResultVar)(ts:Tis)(post:SV→Prop)(id:Nat)(st:St):Option SV→Prop
 |some s=>C3 (aj st.h id)∧lE st.h=false∧ee post (wd rs ts ⟨st.t,bf st.h id (.cells [s])⟩)
 |none=>False
def M9 (C:Value→Option SV)(rs:List ResultVar)(ts:Tis)(post:SV→Prop)(id:Nat):Ex→St→Prop
 | .exit _,_=>False
 | .normal,st=>ee post (wd rs ts st)
 | .ret,st=>ee post (wd rs ts st)
 | .pan x,st=>M8 rs ts post id st (C x)
@[go_sem] theorem TL {y:SV}:C3 (.cells [y])=True:=(rfl)
@[go_sem] theorem V9 {rs:List ResultVar}{ts:Tis}{post:SV→Prop}{id:Nat}{st:St}{s:SV}:M8 rs ts post id st (some s)=(C3 (aj st.h id)∧lE st.h=false∧ee post (wd rs ts ⟨st.t,bf st.h id (.cells [s])⟩)):=(rfl)
section
variable {C:Value→Option SV}{rs:List ResultVar}{ts:Tis}{post:SV→Prop}{id:Nat}{st:St}{x:Value}
@[go_sem] theorem RZ:M9 C rs ts post id .normal st=ee post (wd rs ts st):=(rfl)
@[go_sem] theorem XV:M9 C rs ts post id .ret st=ee post (wd rs ts st):=(rfl)
@[go_sem] theorem XW:M9 C rs ts post id (.pan x) st=M8 rs ts post id st (C x):=(rfl)
end
def qh:Code→Code| .seq a _=>a|c=>c
def oy:Code→Code| .seq _ b=>b|c=>c
def PU:Code→Nat| .region i _ _=>i|_=>0
def M_ (i:Nat):Code→Oper| .region _ ops _=>ops.getD i default|_=>default
theorem TM {g:FuncId}{RC:Value→Option SV}(hrec:GI P g RC)(pks:List Pk)(hm:P.follows .mixedOrders=true)(hts:ts.ok P)(hG:ConsOk P G){f:FuncId}{fn:Func}{c0 c1:Code}{i1 t3 q:Nat}{o1 o2:Oper}{tys:Array TypeId}
  (hf:P.funcs[f]? =some fn) (hb:fn.body=some (.seq c0 (.seq (.region i1 #[o1,o2] false) c1))) (hname:(fn.name== "runtime.NumGoroutine")=false)
  (ho1:o1.dst=some t3∧o1.op=.makeFunc (.func g) #[] #[.tmp q]∧o1.guard=none) (ho2:o2.dst=none∧o2.op=.defer ⟨.value (.tmp t3),#[],tys⟩∧o2.guard=none) (ht3:t3<fn.ntmps)
  (hc0:bO fn.ntmps c0=true) (hc1:bO fn.ntmps c1=true) {C:List SV→Option Con}
  (h:∀ l con,C l=some con→ar con→l.length≤fn.ntmps∧∃ L L' id,am P none fn.ntmps L c0∧am P none fn.ntmps L' c1∧exec ts G L c0 ⟨lf 0 l,[]⟩ (fun e st=>e=.normal∧lk q st.t=.ptr id 0∧C3 (aj st.h id)∧
   exec ts G L' c1 ⟨(t3,.any)::st.t,st.h⟩ (M9 RC fn.results.toList ts (fun s=>da con (tP pks s)) id))):FnOk P f C:=by
 refine⟨fun l con _ args w=>?_,fun l con hcon hpre F w vs hF hvs=>?_⟩
 ·have hn:¬fn.name= "runtime.NumGoroutine":=by simpa using hname
  simp[callFunc,hf,hn,hb]
 ·obtain⟨hlen,L,L',id,hl,hl',hx⟩:=h l con hcon hpre;refine mt (n:=0) (callsIn_of_wp_marks hf hb trivial ?_);have hr:StRel F { w:=w,own:=b_} fn.ntmps b_ ⟨lf 0 l,[]⟩ { tmps:=vs++Array.replicate (fn.ntmps - vs.size) undef,defers:=[]} w:=
   ⟨by have:=hvs.1;simp;omega,Dfr.nil,vb hF,Fr.refl _,fun t=>kz hvs _ t⟩
  refine wpIn_seq (wpIn_mono (lX hm hts hG c0 hc0 hl F _ _ hx b_ _ w hr) ?_);intro e a1 w1 hq;cases e with
  |normal=>
   obtain⟨F1,own1,st1,hF1,hst1,_,hlk,_,hx1⟩:=hq;have hsq:=hst1.slots q;rw[hlk]at hsq;generalize hv:a1.tmps.getD q undef=pv at hsq;cases hsq with
   | @ptr _ _ b hd ho hp=>
   show(Code.seq (.region i1 #[o1,o2] false) c1).wpIn (rd none) 0 P _ a1 w1;have hsz:=hst1.size;refine wpIn_seq (EX ho1 ho2 hv (by rw[hsz];exact ht3) ?_);show c1.wpIn (rd none) 0 P _ _ w1;obtain⟨ms,Ds,k0,k1,k2,k3⟩:=hst1.defers;have k0':a1.defers=ms:=by rw[k0];exact List.append_nil _
   let d:Deferred:= { target:=.fn (.func g) #[.pointer (some ⟨b,0,none⟩)],args:= #[]}
   let B:Bs:= { w:=w1,own:=own1,ds:=d::a1.defers}
   have hr2:StRel F1 B fn.ntmps own1 ⟨(t3,.any)::st1.t,st1.h⟩ { tmps:=a1.tmps.setIfInBounds t3 (.func (.func g) #[] #[.pointer (some ⟨b,0,none⟩)]),defers:=d::a1.defers} w1:=by
    refine⟨by simpa using hsz,Dfr.nil,hst1.hp,Fr.refl B,fun t=>?_⟩;rw[ov];by_cases ht:t3=t
    ·rw[if_pos ht];exact .any _
    ·rw[if_neg ht];have:=hst1.slots t;simp only[Array.getD_eq_getD_getElem?,Array.getElem?_setIfInBounds,if_neg ht];simpa[Array.getD_eq_getD_getElem?]using this
   have hbd:∀ D∈Ds,¬ ∃ id hd,own1 id=some hd∧D∈hd.bs:=fun D hD ⟨i,hd,e,hm⟩ =>hst1.hp.apart i hd D e hm (k3 D hD).2.1;have fin:∀ F2 own2 st2 (a2:Act) w2,(∀ b,F1 b→F2 b)→StRel F2 B fn.ntmps own2 st2 a2 w2→ee (fun s=>da con (tP pks s)) (wd fn.results.toList ts st2)→
     LeavesInM (rd none) 0 P fn a2.tmps (fun e w'=>(∃ s u own',da con s∧e=.returned u∧Handed F w own' w' s u∧Below w.heap.size w w')∨(∃ x,mr con x∧e=.panicked [{ v:=x,recovered:=false}]∧Below w.heap.size w w')) a1.defers .returning w2:=by
    intro F2 own2 st2 a2 w2 hF2 hst2 hdone;have hB:StRel F2 { w:=w,own:=b_} fn.ntmps own2 st2 { a2 with defers:=[]} w2:=⟨hst2.size,Dfr.nil,hst2.hp,hst1.fr.trans ⟨hst2.fr.ids,hst2.fr.base,hst2.fr.os,hst2.fr.tape,hst2.fr.output,hst2.fr.size,hst2.fr.block⟩,hst2.slots⟩;have hkeep:∀ D∈Ds,w2.heap[D]? =some (.deferred (some [])):=fun D hD=>by
     rw[hst2.fr.block D ⟨ni (k3 D hD).2.2,hbd D hD⟩];exact(k3 D hD).2.2
    rw[k0',←List.append_nil ms];refine uA (by simp) Ds ms w2 k1 k2 hkeep fun w4 hs=>?_;have hst4:=(hB.shut (Ds:=Ds) (fun D hD=>⟨(k3 D hD).1,hF2 D (k3 D hD).2.1,hkeep D hD⟩) hs).less (fun c hc=>hF2 c (hF1 c hc)) rfl;simp only[wd]at hdone;cases hres:ku (ju ts st2 fn.results.toList)with
    |none=>rw[hres]at hdone;exact hdone.elim
    |some s=>
     obtain⟨u,e1,e2⟩:=tw (P:=P) hts hst4 hres;rw[hres]at hdone;exact⟨u,e1,.inl ⟨_,u,b_,hdone,rfl,tx hst4.hp.foreign (wv (u9 hst4.hp 4 s u e2)),pc hst4.fr⟩⟩
   have hinv:∀ w2:World,(invoke (.fn (.func g) #[.pointer (some ⟨b,0,none⟩)]) #[]).run P w2=.ok (.enter g #[.pointer (some ⟨b,0,none⟩)]) w2:=fun w2=>by simp[invoke,go_sem,hrec.1]
   refine wpIn_mono (lX hm hts hG c1 hc1 hl' F1 _ _ hx1 own1 _ w1 hr2) ?_;have idle:∀ (a':Act) (w':World) F2 own2 st2,(∀ b,F1 b→F2 b)→StRel F2 B fn.ntmps own2 st2 a' w'→ee (fun s=>da con (tP pks s)) (wd fn.results.toList ts st2)→
     LeavesInM (rd none) 0 P fn a'.tmps (fun e w'=>(∃ s u own',da con s∧e=.returned u∧Handed F w own' w' s u∧Below w.heap.size w w')∨(∃ x,mr con x∧e=.panicked [{ v:=x,recovered:=false}]∧Below w.heap.size w w')) a'.defers .returning w':=by
    intro a' w' F2 own2 st2 hF2 hst2 hdone;refine iF hst2 (by simp) fun w2 hst3=>?_;refine⟨by simp,.inr ⟨fun h=>(by cases h),.func g,#[.pointer (some ⟨b,0,none⟩)],g,#[.pointer (some ⟨b,0,none⟩)],rfl,hinv w2,fun _ _=>trivial,?_⟩⟩;refine(hrec.2.1 ⟨b,0,none⟩ w2).mono ?_;rintro e u' w3 ⟨⟨v,rfl⟩,rfl,rfl⟩;exact fin F2 own2 st2 { a' with defers:=B.ds} _ hF2 hst3 hdone
   intro e a' w' hq;cases e with
   |normal=>obtain⟨F2,own2,st2,h0,h1,h2⟩:=hq;exact idle a' w' F2 own2 st2 h0 h1 h2
   |ret=>obtain⟨F2,own2,st2,h0,h1,h2⟩:=hq;exact idle a' w' F2 own2 st2 h0 h1 h2
   |exit jd=>obtain⟨F2,own2,st2,h0,h1,h2⟩:=hq;exact h2.elim
   |panic ch=>
    obtain⟨x,F2,own2,st2,h0,h1,hm,rfl⟩:=hq;change M8 fn.results.toList ts _ id st2 (RC x)at hm;cases m1:RC x with
    |none=>rw[m1]at hm;exact hm.elim
    |some s=>
    rw[m1]at hm;obtain⟨hm2,m4,m3⟩:=hm;obtain⟨y,m2⟩:=B_ hm2;refine iF h1 (by simp) fun w2 hst3=>?_;refine⟨by simp,.inr ⟨fun h=>(by cases h),.func g,#[.pointer (some ⟨b,0,none⟩)],g,#[.pointer (some ⟨b,0,none⟩)],rfl,hinv w2,fun _ _=>trivial,?_⟩⟩;obtain⟨hd2,e2,l2⟩:=hst3.fr.ids id hd ho;refine(hrec.2.2 x s m1 F2 own2 w2 st2.h id hd2 b y m4 hst3.hp m2 e2 (l2.1.trans hp)).mono ?_;rintro e u' w3 ⟨⟨v,rfl⟩,rfl,own3,q1,q2⟩;exact fin F2 own3 ⟨st2.t,_⟩ { a' with defers:=B.ds} w3 h0 (hst3.moved q1 q2) m3
   |_=>exact hq.elim
  |ret=>obtain⟨F1,own,st,h0,h1,h2,_⟩:=hq;cases h2
  |exit jd=>obtain⟨F1,own,st,h0,h1,h2,_⟩:=hq;cases h2
  |panic ch=>obtain⟨x,F1,own,st,h0,h1,⟨h2,_⟩,_⟩:=hq;cases h2
  |_=>exact hq.elim
end
end Go.Sx
end
