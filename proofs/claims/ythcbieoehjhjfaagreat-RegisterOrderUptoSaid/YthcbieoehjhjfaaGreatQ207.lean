/- Part of the proof that the law RegisterOrder returns true and leaves its arguments as they were, for all arguments of bulk at most 1048576 (the Upto form). -/
import Derived.Test.YthcbieoehjhjfaaGreatQ201
import Derived.Attr
import Derived.Test.YthcbieoehjhjfaaGreatQ206
import Derived.RangeFuncIn
import Derived.TacticsIn
import Derived.RecoverIn
import Derived.Laws.Pointers
set_option linter.all false
set_option maxHeartbeats 4000000
set_option maxRecDepth 100000
section
namespace Go.Sx
def zW (k:TI->OR):Option TI->OR
 |some i=>k i
 |none=>.bad
section
variable {ts:Tis}{G:Cons}{L:mL}{t:List (Nat×SV)}{h:List Ob}{Q:Ex->St->Prop}{K:St->Prop}{Z:Value->St->Prop}{ops rest:List Oper}{nx:Nat}
variable {st st':St}
@[congr] theorem I_ {c:Code}(e:st=st'):exec ts G L c st Q=exec ts G L c st' Q:=by rw[e]
@[congr] theorem Fv (e:st=st'):eP ts G ops rest st K Z=eP ts G ops rest st' K Z:=by rw[e]
@[congr] theorem Ia {i b:Nat}{fps fps':List Fp}(e0:fps=fps')(e:st=st'):fh ts G ops K Z rest i b fps st=fh ts G ops K Z rest i b fps' st':=by rw[e,e0]
@[congr] theorem Ib {d:Option Nat}{r r':OR}(e:r=r'):gj G d st K Z r=gj G d st K Z r':=by rw[e]
@[congr] theorem Ic {d:Option Nat}{g:Nat×Bool}{r r':OR}(e:r=r'):stepG G ops g d st K Z r=stepG G ops g d st K Z r':=by rw[e]
@[congr] theorem Gj {d:Option Nat}{next:List Nat->List Up->St->Prop}{p:Prop}{r r':Option Dr}(e:r=r'):oM d st next p r=oM d st next p r':=by rw[e]
@[congr] theorem Gk {d:Option Nat}{g:Nat×Bool}{next:List Nat->List Up->St->Prop}{p:Prop}{r r':Option Dr}(e:r=r'):nc ops g d st next p r=nc ops g d st next p r':=by rw[e]
@[congr] theorem Id {x y:(Ex->St->Prop)->Prop}{Q:Ex->St->Prop}{s s':SV}{c c':Option LCon}(e:s=s')(e2:c=c'):sM x y Q s c=sM x y Q s' c':=by rw[e,e2]
@[congr] theorem Ie {x:(Ex->St->Prop)->Prop}{Q:Ex->St->Prop}{c c':Option LCon}(e:c=c'):sN x Q c=sN x Q c':=by rw[e]
@[congr] theorem If {c c':Option LCon}(e:c=c'):kO Q c=kO Q c':=by rw[e]
@[go_sem] theorem KU:exec ts G L .skip ⟨t,h⟩ Q=Q .normal ⟨t,h⟩:=(rfl)
@[go_sem] theorem Ig {id:Nat}{a:Array Oper}{d:Bool}:exec ts G L (.region id a d) ⟨t,h⟩ Q=sN (ri ts G a d ⟨t,h⟩) Q (L (id+2000000) ⟨t,h⟩):=(rfl)
@[go_sem] theorem Ih:ri ts G ops.toArray false ⟨t,h⟩ Q=eP ts G ops ops ⟨t,h⟩ (fun st'=>Q .normal (nf ops st')) (fun x st'=>Q (.pan x) st'):=(rfl)
@[go_sem] theorem Ja {x:(Ex->St->Prop)->Prop}:sN x Q none=x Q:=(rfl)
@[go_sem] theorem Jb {d:St}:inC d Q .normal ⟨t,h⟩=(h=d.h/\subJ t d.t):=(rfl)
@[go_sem] theorem O3 {d st:St}{x:Value}:inC d Q (.pan x) st=Q (.pan x) st:=(rfl)
@[go_sem] theorem Na {a b:Code}:exec ts G L (.seq a b) ⟨t,h⟩ Q=exec ts G L a ⟨t,h⟩ (Ex.then (fun st'=>exec ts G L b st' Q) Q):=(rfl)
@[go_sem] theorem KV {c:Operand}{x y:Code}:exec ts G L (.cond c x y) ⟨t,h⟩ Q=sM (exec ts G L x ⟨t,h⟩) (exec ts G L y ⟨t,h⟩) Q (raw t c) (L (Dl c) ⟨t,h⟩):=(rfl)
@[go_sem] theorem Jc {x y:(Ex->St->Prop)->Prop}{s:SV}:sM x y Q s none=ou (x Q) (y Q) s:=(rfl)
@[go_sem] theorem Nb {x y:(Ex->St->Prop)->Prop}{s:SV}{d:St}:sM x y Q s (some (JC d))=(ou (x (inJ d)) (y (inJ d)) s/\Q .normal d):=by
 have e:(fun e st=>∃ r,(JC d).post r/\inJ ((JC d).out r) e st)=inJ d:=by
  funext e st
  exact propext ⟨fun⟨_,_,h⟩ =>h,fun h=>⟨(),trivial,h⟩⟩
 show Dm x y Q s (JC d)=_;unfold Dm;rw[e];exact propext ⟨fun h=>⟨h.1,h.2 () trivial⟩,fun h=>⟨h.1,fun _ _=>h.2⟩⟩
@[go_sem] theorem Nc {n:Nat}:Dl (.tmp n)=n+1000000:=(rfl)
@[go_sem] theorem Jd {d:St}:inJ d .normal ⟨t,h⟩=(h=d.h/\subJ t d.t):=(rfl)
@[go_sem] theorem Nd:subJ t []=True:=(rfl)
@[go_sem] theorem KW {n:Nat}{s:SV}{r:List (Nat×SV)}:subJ t ((n,s)::r)=(lk n t=s/\subJ t r):=(rfl)
@[go_sem] theorem DW {id:Nat}{c:Code}:exec ts G L (.block id (.loop c)) ⟨t,h⟩ Q=kO Q (L id ⟨t,h⟩):=(rfl)
@[go_sem] theorem CR {id:Nat}{f:Operand}{ps:Array Tmp}{a b:Code}:exec ts G L (.block id (.rangeFunc f ps a b)) ⟨t,h⟩ Q=kO Q (L id ⟨t,h⟩):=(rfl)
@[go_sem] theorem DX {id:Nat}{a b:Code}:exec ts G L (.block id (.seq a b)) ⟨t,h⟩ Q=exec ts G L (.seq a b) ⟨t,h⟩ (Ex.block id Q):=(rfl)
@[go_sem] theorem CS {id:Nat}{c:Operand}{a b:Code}:exec ts G L (.block id (.cond c a b)) ⟨t,h⟩ Q=exec ts G L (.cond c a b) ⟨t,h⟩ (Ex.block id Q):=(rfl)
@[go_sem] theorem A8 {id j:Nat}{a:Array Oper}{d:Bool}:exec ts G L (.block id (.region j a d)) ⟨t,h⟩ Q=exec ts G L (.region j a d) ⟨t,h⟩ (Ex.block id Q):=(rfl)
@[go_sem] theorem CT {id:Nat}:exec ts G L (.block id .skip) ⟨t,h⟩ Q=exec ts G L .skip ⟨t,h⟩ (Ex.block id Q):=(rfl)
@[go_sem] theorem KX {id:Nat}:exec ts G L (.exit id) ⟨t,h⟩ Q=Q (.exit id) ⟨t,h⟩:=(rfl)
@[go_sem] theorem Nf:exec ts G L .ret ⟨t,h⟩ Q=Q .ret ⟨t,h⟩:=(rfl)
@[go_sem] theorem Cm {id:Nat}{c:Code}:exec ts G L (.block id (.scope c)) ⟨t,h⟩ Q=exec ts G L (.scope c) ⟨t,h⟩ (Ex.block id Q):=(rfl)
@[go_sem] theorem Cn {id l:Nat}:exec ts G L (.block id (.label l)) ⟨t,h⟩ Q=exec ts G L (.label l) ⟨t,h⟩ (Ex.block id Q):=(rfl)
@[go_sem] theorem Je {c:Code}:exec ts G L (.scope c) ⟨t,h⟩ Q=exec ts G L c ⟨t,h⟩ Q:=(rfl)
@[go_sem] theorem Jf {l:Nat}:exec ts G L (.label l) ⟨t,h⟩ Q=Q .normal ⟨t,h⟩:=(rfl)
@[go_sem] theorem Ii {st:St}:Ex.then K Q .normal st=K st:=(rfl)
@[go_sem] theorem Ng {st:St}:Ex.then K Q .ret st=Q .ret st:=(rfl)
@[go_sem] theorem KY {st:St}{j:Nat}:Ex.then K Q (.exit j) st=Q (.exit j) st:=(rfl)
@[go_sem] theorem Gl {st:St}{id:Nat}:Ex.block id Q .normal st=Q .normal st:=(rfl)
@[go_sem] theorem KZ {st:St}{id:Nat}:Ex.block id Q .ret st=Q .ret st:=(rfl)
@[go_sem] theorem Nh {st:St}{v:Value}:Ex.then K Q (.pan v) st=Q (.pan v) st:=(rfl)
@[go_sem] theorem K1 {st:St}{id:Nat}{v:Value}:Ex.block id Q (.pan v) st=Q (.pan v) st:=(rfl)
@[go_sem] theorem Jg {st:St}{id j:Nat}:Ex.block id Q (.exit j) st=bif Nat.beq j id then Q .normal st else Q (.exit j) st:=(rfl)
@[go_sem] theorem O4 {x y:Prop}{b:Bool}:ou x y (.v (.bool b))=((b=true->x)/\(b=false->y)):=(rfl)
@[go_sem] theorem Jh {α:Type}{pre:Prop}{post:α->Prop}{ex:α->Ex}{out:α->St}:kO Q (some ⟨α,pre,post,ex,out⟩)=(pre/\∀ r,post r->Q (ex r) (out r)):=(rfl)
@[go_sem] theorem Ji:ri ts G ops.toArray true ⟨t,h⟩ Q=fh ts G ops (fun st'=>Q .normal (nf ops st')) (fun x st'=>Q (.pan x) st') ops 0 0 [] ⟨t,h⟩:=(rfl)
@[go_sem] theorem Ij:eP ts G ops [] ⟨t,h⟩ K Z=K ⟨t,h⟩:=(rfl)
@[go_sem] theorem Gm {d:Option Nat}{op:Op}{ty:TypeId}{pos:String}{af:Array Edge}:eP ts G ops (⟨d,op,ty,pos,af,none⟩::rest) ⟨t,h⟩ K Z=gj G d ⟨t,h⟩ (fun st'=>eP ts G ops rest st' K Z) Z (opS ⟨ts,ops,none,⟨t,h⟩,h.length⟩ op):=(rfl)
@[go_sem] theorem Jj {i b:Nat}{fps:List Fp}{d:Option Nat}{op:Op}{ty:TypeId}{pos:String}{af:Array Edge}:fh ts G ops K Z (⟨d,op,ty,pos,af,none⟩::rest) i b fps ⟨t,h⟩=oM d ⟨t,h⟩ (fun all ups st'=>fh ts G ops K Z rest (i+1) b (fps++[fpU op (fpO ⟨ts,ops,none,⟨t,h⟩,h.length⟩ op) all ups]) st') (kM ops b fps/\sK ops i=true/\gj G d ⟨t,h⟩ (fun st'=>fh ts G ops K Z rest (i+1) (i+1) [] st') Z (opS ⟨ts,ops,none,⟨t,h⟩,h.length⟩ op)) (ff G h h.length (opS ⟨ts,ops,none,⟨t,h⟩,h.length⟩ op)):=(rfl)
@[go_sem] theorem Gn {d:Option Nat}{op:Op}{ty:TypeId}{pos:String}{af:Array Edge}{g:Nat×Bool}:eP ts G ops (⟨d,op,ty,pos,af,some g⟩::rest) ⟨t,h⟩ K Z=stepG G ops g d ⟨t,h⟩ (fun st'=>eP ts G ops rest st' K Z) Z (opS ⟨ts,ops,some g,⟨t,h⟩,h.length⟩ op):=(rfl)
@[go_sem] theorem Jk {i b:Nat}{fps:List Fp}{d:Option Nat}{op:Op}{ty:TypeId}{pos:String}{af:Array Edge}{g:Nat×Bool}:fh ts G ops K Z (⟨d,op,ty,pos,af,some g⟩::rest) i b fps ⟨t,h⟩=nc ops g d ⟨t,h⟩ (fun all ups st'=>fh ts G ops K Z rest (i+1) b (fps++[fpU op (fpO ⟨ts,ops,some g,⟨t,h⟩,h.length⟩ op) all ups]) st') (kM ops b fps/\sK ops i=true/\stepG G ops g d ⟨t,h⟩ (fun st'=>fh ts G ops K Z rest (i+1) (i+1) [] st') Z (opS ⟨ts,ops,some g,⟨t,h⟩,h.length⟩ op)) (ff G h h.length (opS ⟨ts,ops,some g,⟨t,h⟩,h.length⟩ op)):=(rfl)
@[go_sem] theorem K2 {i b:Nat}{fps:List Fp}:fh ts G ops K Z [] i b fps ⟨t,h⟩=(kM ops b fps/\K ⟨t,h⟩):=(rfl)
@[go_sem] theorem K3 {d:Nat}{s:SV}:gj G (some d) ⟨t,h⟩ K Z (.val s)=K ⟨(d,s)::t,h⟩:=(rfl)
@[go_sem] theorem K4 {d:Nat}{s:SV}{c:Prop}:gj G (some d) ⟨t,h⟩ K Z (.chk c s)=(c/\K ⟨(d,s)::t,h⟩):=(rfl)
@[go_sem] theorem K5 {d:Nat}{s:SV}{c:Prop}:gj G (some d) ⟨t,h⟩ K Z (.asm c s)=(c->K ⟨(d,s)::t,h⟩):=(rfl)
@[go_sem] theorem Jl {d:Nat}{s:SV}:gj G (some d) ⟨t,h⟩ K Z (.newr s)=K ⟨(d,s)::t,h⟩:=(rfl)
@[go_sem] theorem K6 {d:Nat}{s:SV}{c a:Prop}{ups:List Up}:gj G (some d) ⟨t,h⟩ K Z (.eff c a ups s)=(c/\(a->K ⟨(d,s)::t,aD h ups⟩)):=(rfl)
@[go_sem] theorem K7 {d:Nat}{g:Nat×Bool}:stepG G ops g (some d) ⟨t,h⟩ K Z .bad=(mq ops t ops.length g/\K ⟨(d,.gd g.1 g.2 .any)::t,h⟩):=(rfl)
@[go_sem] theorem Jm {g:Nat×Bool}:stepG G ops g none ⟨t,h⟩ K Z .bad=(mq ops t ops.length g/\K ⟨t,h⟩):=(rfl)
@[go_sem] theorem K8 {d:Nat}{s:SV}{g:Nat×Bool}:stepG G ops g (some d) ⟨t,h⟩ K Z (.val s)=K ⟨(d,.gd g.1 g.2 s)::t,h⟩:=(rfl)
@[go_sem] theorem K9 {d:Nat}{s:SV}{g:Nat×Bool}{c:Prop}:stepG G ops g (some d) ⟨t,h⟩ K Z (.chk c s)=((co ops t ops.length g->c)/\K ⟨(d,.gd g.1 g.2 s)::t,h⟩):=(rfl)
@[go_sem] theorem K_ {d:Nat}{s:SV}{g:Nat×Bool}{c:Prop}:stepG G ops g (some d) ⟨t,h⟩ K Z (.asm c s)=K ⟨(d,.gd g.1 g.2 s)::t,h⟩:=(rfl)
@[go_sem] theorem Jn {d:Nat}{s:SV}{g:Nat×Bool}:stepG G ops g (some d) ⟨t,h⟩ K Z (.newr s)=K ⟨(d,.gd g.1 g.2 s)::t,h⟩:=(rfl)
@[go_sem] theorem La {d:Nat}{s:SV}{g:Nat×Bool}{c a:Prop}{ups:List Up}:stepG G ops g (some d) ⟨t,h⟩ K Z (.eff c a ups s)=((co ops t ops.length g->c/\(a->K ⟨(d,.gd g.1 g.2 s)::t,aD h ups⟩))/\(dD ops t ops.length g->K ⟨(d,.gd g.1 g.2 .any)::t,h⟩)):=(rfl)
@[go_sem] theorem Lb {c:Option HCon}{np:Bool}{ids:List Nat}{d:Nat}{s:SV}{p:Prop}:na np ids (some d) ⟨t,h⟩ K Z c (some (.det p s))=bif np||dW 3 s then(p/\K ⟨(d,er 3 h.length s)::t,h++av 3 s⟩)else ph ids (some d) ⟨t,h⟩ K Z c:=(rfl)
@[go_sem] theorem Lc {c:Option HCon}{np:Bool}{ids:List Nat}{d:Nat}{α:Type}{pre:Prop}{post:α->Prop}{out:α->SV}:na np ids (some d) ⟨t,h⟩ K Z c (some (.rel α pre post out))=(pre/\(bif np then ∀ r,post r->K ⟨(d,er 3 h.length (out r))::t,h++av 3 (out r)⟩else False)):=(rfl)
@[go_sem] theorem Ld {c:Option HCon}{np:Bool}{ids:List Nat}{d:Nat}{s:SV}{ok:Bool}{x:Value}:na np ids (some d) ⟨t,h⟩ K Z c (some (.may ok s x))=(bif np||dW 3 s then(ok=true->K ⟨(d,er 3 h.length s)::t,h++av 3 s⟩)/\(ok=false->Z x ⟨ungd t,h⟩)else False):=(rfl)
@[go_sem] theorem Ni {ids:List Nat}{d:Nat}{s:SV}{h':List Ob}:zg ids (some d) ⟨t,h⟩ K Z (.ret s h')=K ⟨(d,ren (kh ids h.length) 3 s)::t,gP ids h.length h 0 h'⟩:=(rfl)
@[go_sem] theorem Nj {ids:List Nat}{d:Nat}{s:SV}{h':List Ob}{g:Nat×Bool}:BN ids g (some d) ⟨t,h⟩ K Z (.ret s h')=K ⟨(d,.gd g.1 g.2 (ren (kh ids h.length) 3 s))::t,gP ids h.length h 0 h'⟩:=(rfl)
@[go_sem] theorem Ik {ids:List Nat}{d:Option Nat}{g:Nat×Bool}:oL ids ops g d st K Z none=(mq ops st.t ops.length g/\K (st.put d (.gd g.1 g.2 .any))):=(rfl)
@[go_sem] theorem Il {ids:List Nat}{d:Nat}{o:HCon}{g:Nat×Bool}:oL ids ops g (some d) ⟨t,h⟩ K Z (some o)=((co ops t ops.length g->o.pre/\∀ r,o.post r->BN ids g (some d) ⟨t,h⟩ K Z (o.res r))/\(dD ops t ops.length g->K ⟨(d,.gd g.1 g.2 .any)::t,h⟩)):=(rfl)
@[go_sem] theorem Le {c:Option HCon}{np:Bool}{ids:List Nat}{d:Nat}{s:SV}{g:Nat×Bool}{p:Prop}:sL np ids ops g (some d) ⟨t,h⟩ K Z c (some (.det p s))=((co ops t ops.length g->p)/\(bif(np||dW 3 s)&&(av 3 s).isEmpty then K ⟨(d,.gd g.1 g.2 s)::t,h⟩else False)):=(rfl)
@[go_sem] theorem Lf {id:Nat}{d:Nat}{α:Type}{pre:Prop}{post:α->Prop}{res:α->Bool×Res}:zh id (some d) ⟨t,h⟩ K (some ⟨α,pre,post,res⟩)=(pre/\∀ r,post r->K ⟨(d,.b (res r).1)::t,bf h id (.ab (res r).2)⟩):=(rfl)
@[go_sem] theorem Lg {id:Nat}{d:Nat}{α:Type}{pre:Prop}{post:α->Prop}{res:α->Bool×Res}{g:Nat×Bool}:xF id ops g (some d) ⟨t,h⟩ K (some ⟨α,pre,post,res⟩)=((co ops t ops.length g->pre/\∀ r,post r->K ⟨(d,.gd g.1 g.2 (.b (res r).1))::t,bf h id (.ab (res r).2)⟩)/\(dD ops t ops.length g->K ⟨(d,.gd g.1 g.2 .any)::t,h⟩)):=(rfl)
@[go_sem] theorem QF {K0:Prop}{d:Nat}{next:List Nat->List Up->St->Prop}{c a:Prop}{s:SV}{ups:List Up}{all:List Nat}:oM (some d) ⟨t,h⟩ next K0 (some ⟨c,a,s,ups,all⟩)=(c/\(a->next all ups ⟨(d,s)::t,aD h ups⟩)):=(rfl)
@[go_sem] theorem QG {K0:Prop}{d:Nat}{next:List Nat->List Up->St->Prop}{c a:Prop}{s:SV}{ups:List Up}{all:List Nat}{g:Nat×Bool}:nc ops g (some d) ⟨t,h⟩ next K0 (some ⟨c,a,s,ups,all⟩)=bif ups.isEmpty then(co ops t ops.length g->c)/\next all [] ⟨(d,.gd g.1 g.2 s)::t,h⟩else ¬ (co ops t ops.length g/\dD ops t ops.length g)/\(co ops t ops.length g->c/\(a->next all ups ⟨(d,.gd g.1 g.2 s)::t,aD h ups⟩))/\(dD ops t ops.length g->next all [] ⟨(d,.gd g.1 g.2 s)::t,h⟩):=(rfl)
@[go_sem] theorem Jo {s:SV}:gj G none ⟨t,h⟩ K Z (.val s)=K ⟨t,h⟩:=(rfl)
@[go_sem] theorem Jp {s:SV}{c:Prop}:gj G none ⟨t,h⟩ K Z (.chk c s)=(c/\K ⟨t,h⟩):=(rfl)
@[go_sem] theorem Jq {s:SV}{c:Prop}:gj G none ⟨t,h⟩ K Z (.asm c s)=(c->K ⟨t,h⟩):=(rfl)
@[go_sem] theorem Im {s:SV}:gj G none ⟨t,h⟩ K Z (.newr s)=K ⟨t,h⟩:=(rfl)
@[go_sem] theorem Jr {s:SV}{c a:Prop}{ups:List Up}:gj G none ⟨t,h⟩ K Z (.eff c a ups s)=(c/\(a->K ⟨t,aD h ups⟩)):=(rfl)
@[go_sem] theorem Js {s:SV}{g:Nat×Bool}:stepG G ops g none ⟨t,h⟩ K Z (.val s)=K ⟨t,h⟩:=(rfl)
@[go_sem] theorem Jt {s:SV}{g:Nat×Bool}{c:Prop}:stepG G ops g none ⟨t,h⟩ K Z (.chk c s)=((co ops t ops.length g->c)/\K ⟨t,h⟩):=(rfl)
@[go_sem] theorem Ju {s:SV}{g:Nat×Bool}{c:Prop}:stepG G ops g none ⟨t,h⟩ K Z (.asm c s)=K ⟨t,h⟩:=(rfl)
@[go_sem] theorem In {s:SV}{g:Nat×Bool}:stepG G ops g none ⟨t,h⟩ K Z (.newr s)=K ⟨t,h⟩:=(rfl)
@[go_sem] theorem Jv {s:SV}{g:Nat×Bool}{c a:Prop}{ups:List Up}:stepG G ops g none ⟨t,h⟩ K Z (.eff c a ups s)=((co ops t ops.length g->c/\(a->K ⟨t,aD h ups⟩))/\(dD ops t ops.length g->K ⟨t,h⟩)):=(rfl)
@[go_sem] theorem Jw {c:Option HCon}{np:Bool}{ids:List Nat}{s:SV}{p:Prop}:na np ids none ⟨t,h⟩ K Z c (some (.det p s))=bif np||dW 3 s then(p/\K ⟨t,h++av 3 s⟩)else ph ids none ⟨t,h⟩ K Z c:=(rfl)
@[go_sem] theorem Jx {c:Option HCon}{np:Bool}{ids:List Nat}{α:Type}{pre:Prop}{post:α->Prop}{out:α->SV}:na np ids none ⟨t,h⟩ K Z c (some (.rel α pre post out))=(pre/\(bif np then ∀ r,post r->K ⟨t,h++av 3 (out r)⟩else False)):=(rfl)
@[go_sem] theorem Jy {c:Option HCon}{np:Bool}{ids:List Nat}{s:SV}{ok:Bool}{x:Value}:na np ids none ⟨t,h⟩ K Z c (some (.may ok s x))=(bif np||dW 3 s then(ok=true->K ⟨t,h++av 3 s⟩)/\(ok=false->Z x ⟨ungd t,h⟩)else False):=(rfl)
@[go_sem] theorem Lh {ids:List Nat}{s:SV}{h':List Ob}:zg ids none ⟨t,h⟩ K Z (.ret s h')=K ⟨t,gP ids h.length h 0 h'⟩:=(rfl)
@[go_sem] theorem Li {ids:List Nat}{s:SV}{h':List Ob}{g:Nat×Bool}:BN ids g none ⟨t,h⟩ K Z (.ret s h')=K ⟨t,gP ids h.length h 0 h'⟩:=(rfl)
@[go_sem] theorem Gp {ids:List Nat}{o:HCon}{g:Nat×Bool}:oL ids ops g none ⟨t,h⟩ K Z (some o)=((co ops t ops.length g->o.pre/\∀ r,o.post r->BN ids g none ⟨t,h⟩ K Z (o.res r))/\(dD ops t ops.length g->K ⟨t,h⟩)):=(rfl)
@[go_sem] theorem Jz {c:Option HCon}{np:Bool}{ids:List Nat}{s:SV}{g:Nat×Bool}{p:Prop}:sL np ids ops g none ⟨t,h⟩ K Z c (some (.det p s))=((co ops t ops.length g->p)/\(bif(np||dW 3 s)&&(av 3 s).isEmpty then K ⟨t,h⟩else False)):=(rfl)
@[go_sem] theorem JA {id:Nat}{α:Type}{pre:Prop}{post:α->Prop}{res:α->Bool×Res}:zh id none ⟨t,h⟩ K (some ⟨α,pre,post,res⟩)=(pre/\∀ r,post r->K ⟨t,bf h id (.ab (res r).2)⟩):=(rfl)
@[go_sem] theorem JB {id:Nat}{α:Type}{pre:Prop}{post:α->Prop}{res:α->Bool×Res}{g:Nat×Bool}:xF id ops g none ⟨t,h⟩ K (some ⟨α,pre,post,res⟩)=((co ops t ops.length g->pre/\∀ r,post r->K ⟨t,bf h id (.ab (res r).2)⟩)/\(dD ops t ops.length g->K ⟨t,h⟩)):=(rfl)
@[go_sem] theorem O5 {K0:Prop}{next:List Nat->List Up->St->Prop}{c a:Prop}{s:SV}{ups:List Up}{all:List Nat}:oM none ⟨t,h⟩ next K0 (some ⟨c,a,s,ups,all⟩)=(c/\(a->next all ups ⟨t,aD h ups⟩)):=(rfl)
@[go_sem] theorem O6 {K0:Prop}{next:List Nat->List Up->St->Prop}{c a:Prop}{s:SV}{ups:List Up}{all:List Nat}{g:Nat×Bool}:nc ops g none ⟨t,h⟩ next K0 (some ⟨c,a,s,ups,all⟩)=bif ups.isEmpty then(co ops t ops.length g->c)/\next all [] ⟨t,h⟩else ¬ (co ops t ops.length g/\dD ops t ops.length g)/\(co ops t ops.length g->c/\(a->next all ups ⟨t,aD h ups⟩))/\(dD ops t ops.length g->next all [] ⟨t,h⟩):=(rfl)
@[go_sem] theorem Io {d:Option Nat}{next:List Nat->List Up->St->Prop}{p:Prop}:oM d st next p none=p:=(rfl)
@[go_sem] theorem Ip {d:Option Nat}{next:List Nat->List Up->St->Prop}{p:Prop}{g:Nat×Bool}:nc ops g d st next p none=p:=(rfl)
@[go_sem] theorem JD {d:Option Nat}{f:FuncId}{args:List SV}:gj G d ⟨t,h⟩ K Z (.call f args)=na (args.all (bO 3)) (reach h 64 (args.flatMap (dm 3)) []) d ⟨t,h⟩ K Z (G.o f (args.map (ren (inN (reach h 64 (args.flatMap (dm 3)) [])) 6)) (km h (reach h 64 (args.flatMap (dm 3)) []))) (G.p f (args.map (dl h 6))):=(rfl)
@[go_sem] theorem JE {d:Option Nat}{f:FuncId}{args:List SV}{g:Nat×Bool}:stepG G ops g d ⟨t,h⟩ K Z (.call f args)=sL (args.all (bO 3)) (reach h 64 (args.flatMap (dm 3)) []) ops g d ⟨t,h⟩ K Z (G.o f (args.map (ren (inN (reach h 64 (args.flatMap (dm 3)) [])) 6)) (km h (reach h 64 (args.flatMap (dm 3)) []))) (G.p f (args.map (dl h 6))):=(rfl)
@[go_sem] theorem Lj {d:Option Nat}{id:Nat}{args:List SV}:gj G d ⟨t,h⟩ K Z (.yld id args)=bif args.all (bO 3)then zh id d ⟨t,h⟩ K (wg G args (ae h id))else False:=(rfl)
@[go_sem] theorem Lk {d:Option Nat}{id:Nat}{args:List SV}{g:Nat×Bool}:stepG G ops g d ⟨t,h⟩ K Z (.yld id args)=bif args.all (bO 3)then xF id ops g d ⟨t,h⟩ K (wg G args (ae h id))else False:=(rfl)
@[go_sem] theorem O7 {args:List SV}{r:Res}:wg G args (.ab r)=G.y args r:=(rfl)
@[go_sem] theorem Ll {d:Option Nat}{id:Nat}:gj G d ⟨t,h⟩ K Z (.nxt id)=FU id d ⟨t,h⟩ K (ae h id):=(rfl)
@[go_sem] theorem O8 {d:Option Nat}{id mid n:Nat}{left:List Nat}{cur:Option Nat}:FU id d ⟨t,h⟩ K (.mi (some mid) n left cur)=Dj id mid n left d ⟨t,h⟩ K (ae h mid):=(rfl)
@[go_sem] theorem O9 {d id mid n it:Nat}{left:List Nat}{kk vk:Tag}{l:List (kk.T×vk.T)}:Dj id mid n left (some d) ⟨t,h⟩ K (.mp kk vk l (some (it,none)))=((it=id/\n=l.length)/\(left=[]->K ⟨(d,.tup [.v (.bool false)])::t,h⟩)/\∀ j,j∈left->K ⟨(d,.tup [.v (.bool true),svT kk (l.getD j (di kk,di vk)).1,svT vk (l.getD j (di kk,di vk)).2])::t,bf h id (.mi (some mid) n (left.erase j) (some j))⟩):=(rfl)
@[go_sem] theorem Nk {id:Nat}:ff G h nx (.nxt id)=none:=(rfl)
@[go_sem] theorem Nl {p:Bool->Prop}:ff G h nx (.amb p)=none:=(rfl)
@[go_sem] theorem Lm {d:Nat}{p:Bool->Prop}:gj G (some d) ⟨t,h⟩ K Z (.amb p)= ∀ b,p b->K ⟨(d,.v (.bool b))::t,h⟩:=(rfl)
@[go_sem] theorem Ln {d:Option Nat}{x:Value}:gj G d ⟨t,h⟩ K Z (.pan x)=Z x ⟨ungd t,h⟩:=(rfl)
@[go_sem] theorem Lo {c:Option HCon}{np:Bool}{ids:List Nat}{d:Option Nat}:na np ids d ⟨t,h⟩ K Z c none=ph ids d ⟨t,h⟩ K Z c:=(rfl)
@[go_sem] theorem JF {ids:List Nat}{d:Option Nat}{o:HCon}:ph ids d ⟨t,h⟩ K Z (some o)=(o.pre/\∀ r,o.post r->zg ids d ⟨t,h⟩ K Z (o.res r)):=(rfl)
@[go_sem] theorem Nm {ids:List Nat}{d:Option Nat}{x:Value}{h':List Ob}:zg ids d ⟨t,h⟩ K Z (.pan x h')=Z x ⟨ungd t,gP ids h.length h 0 h'⟩:=(rfl)
@[go_sem] theorem Nn {ids:List Nat}{d:Option Nat}{x:Value}{h':List Ob}{g:Nat×Bool}:BN ids g d ⟨t,h⟩ K Z (.pan x h')=Z x ⟨ungd t,gP ids h.length h 0 h'⟩:=(rfl)
@[go_sem] theorem Lp {c:Option HCon}{np:Bool}{ids:List Nat}{d:Option Nat}{g:Nat×Bool}:sL np ids ops g d ⟨t,h⟩ K Z c none=oL ids ops g d ⟨t,h⟩ K Z c:=(rfl)
@[go_sem] theorem No:ff G h nx .bad=some ⟨False,True,.any,[],[]⟩:=(rfl)
@[go_sem] theorem Np {s:SV}:ff G h nx (.val s)=some ⟨True,True,s,[],[]⟩:=(rfl)
@[go_sem] theorem Nq {s:SV}{c:Prop}:ff G h nx (.chk c s)=some ⟨c,True,s,[],[]⟩:=(rfl)
@[go_sem] theorem Nr {s:SV}{c:Prop}:ff G h nx (.asm c s)=some ⟨True,c,s,[],[]⟩:=(rfl)
@[go_sem] theorem Lq {s:SV}:ff G h nx (.newr s)=some ⟨True,True,s,[],[]⟩:=(rfl)
@[go_sem] theorem Ns {s:SV}{c a:Prop}{ups:List Up}:ff G h nx (.eff c a ups s)=some ⟨c,a,s,ups,[]⟩:=(rfl)
@[go_sem] theorem Lr {f:FuncId}{args:List SV}:ff G h nx (.call f args)=drC (args.all (bO 3)) (args.flatMap (eO h 6)) nx (G.p f (args.map (dl h 6))):=(rfl)
@[go_sem] theorem Nt {id:Nat}{args:List SV}:ff G h nx (.yld id args)=none:=(rfl)
@[go_sem] theorem Nu {x:Value}:ff G h nx (.pan x)=none:=(rfl)
@[go_sem] theorem O_ {np:Bool}{rd:List Nat}{s:SV}{p:Prop}:drC np rd nx (some (.det p s))=drR np rd nx p s (av 3 s):=(rfl)
@[go_sem] theorem Pa {np:Bool}{rd:List Nat}{s:SV}{p:Prop}:drR np rd nx p s []=bif np||dW 3 s then some ⟨p,True,s,[],rd⟩else none:=(rfl)
@[go_sem] theorem Pb {np:Bool}{rd:List Nat}{s:SV}{p:Prop}{ob:Ob}:drR np rd nx p s [ob]=bif np||dW 3 s then some ⟨p,True,er 3 nx s,[(nx,ob)],rd⟩else none:=(rfl)
@[go_sem] theorem Pc {np:Bool}{rd:List Nat}{s:SV}{p:Prop}{o1 o2:Ob}{l:List Ob}:drR np rd nx p s (o1::o2::l)=none:=(rfl)
@[go_sem] theorem Pd {np:Bool}{rd:List Nat}{α:Type}{pre:Prop}{post:α->Prop}{out:α->SV}:drC np rd nx (some (.rel α pre post out))=none:=(rfl)
@[go_sem] theorem Pe {np:Bool}{rd:List Nat}{s:SV}{ok:Bool}{x:Value}:drC np rd nx (some (.may ok s x))=none:=(rfl)
@[go_sem] theorem Nv {np:Bool}{rd:List Nat}:drC np rd nx none=none:=(rfl)
@[go_sem] theorem Ls {b:Nat}{fps:List Fp}:kM ops b fps=bif sJ fps then True else H4 ops b fps=true:=(rfl)
variable {g:Option (Nat×Bool)}
@[go_sem] theorem QH {x:Operand}:val ⟨ts,ops,g,⟨t,h⟩,nx⟩ x=aO ops g (raw t x):=(rfl)
variable {cx:Cx}{x y a b:Operand}{ty n f:Nat}
@[go_sem] theorem Nw:opS cx (.move x)=.val (val cx x):=(rfl)
@[go_sem] theorem JG:opS cx (.assign x)=.val (val cx x):=(rfl)
@[go_sem] theorem Nx {c:Operand}:opS ⟨ts,ops,g,⟨t,h⟩,nx⟩ (.pick c a b)=sw a b (aO ops g (raw t c)) (fQ ops g c true (raw t a)) (fQ ops g c false (raw t b)):=(rfl)
@[go_sem] theorem Lt:opS ⟨ts,ops,g,⟨t,h⟩,nx⟩ (.alloc ty)=an ts ty fun ti=>v8 nx (some ti.zero):=(rfl)
@[go_sem] theorem Pf:opS ⟨ts,ops,g,⟨t,h⟩,nx⟩ (.box ty x)=v8 nx (jf (aO ops g (raw t x))):=(rfl)
@[go_sem] theorem Lu {parts:List (Nat×Operand)}:opS ⟨ts,ops,g,⟨t,h⟩,nx⟩ (.build ty parts.toArray)=an ts ty fun ti=>bif ti.isArr then an ts ti.elem fun te=>zc (gi (fun i=>some (i*te.size,te.size)) ti.zero (dP ⟨ts,ops,g,⟨t,h⟩,nx⟩ parts))else bif ti.agg then zc (gi (fun i=>(nth ti.fields i).map fun f=>(f.1,f.2.1)) ti.zero (dP ⟨ts,ops,g,⟨t,h⟩,nx⟩ parts))else .bad:=(rfl)
@[go_sem] theorem DY {parts:List (Nat×Operand)}:opS ⟨ts,ops,g,⟨t,h⟩,nx⟩ (.buildSlice ty n parts.toArray)=an ts ty fun ti=>an ts ti.elem fun te=>ul (uk ty ops g) nx te (bsS ti te n (dP ⟨ts,ops,g,⟨t,h⟩,nx⟩ parts)):=(rfl)
@[go_sem] theorem Ny:opS ⟨ts,ops,g,⟨t,h⟩,nx⟩ (.load ty a)=an ts ty fun ti=>jE ti h (aO ops g (raw t a)):=(rfl)
@[go_sem] theorem Lv:opS ⟨ts,ops,g,⟨t,h⟩,nx⟩ (.store ty a x)=an ts ty fun ti=>j5 ti.size nx h (aO ops g (raw t a)) (aO ops g (raw t x)):=(rfl)
@[go_sem] theorem Gq:opS ⟨ts,ops,g,⟨t,h⟩,nx⟩ (.nilCheck x)=CW (aO ops g (raw t x)):=(rfl)
@[go_sem] theorem Lw {op:BinOp}:opS ⟨ts,ops,g,⟨t,h⟩,nx⟩ (.binOp op ty x y n)=vY ts op ty (aO ops g (raw t x)) (aO ops g (raw t y)):=(rfl)
@[go_sem] theorem Nz {op:UnOp}:opS ⟨ts,ops,g,⟨t,h⟩,nx⟩ (.unOp op ty x)=unS op (aO ops g (raw t x)):=(rfl)
@[go_sem] theorem Iq:opS ⟨ts,ops,g,⟨t,h⟩,nx⟩ (.convert n ty x)=an ts n fun _=>an ts ty fun ti=>xy ti.int (aO ops g (raw t x)):=(rfl)
@[go_sem] theorem Gr {fn:Fn}{first caps:List Operand}:opS cx (.makeFunc fn first.toArray caps.toArray)=xB fn (bT cx first) (bT cx caps):=(rfl)
def Ir (k:SV):Option (Nat×Nat×Bool)->OR
 |some (o,n,_) =>bif Nat.ble 1 n then pe o k else .bad
 |none=>.bad
@[go_sem] theorem JH {k:SV}{o n:Nat}{q:Bool}:Ir k (some (o,n,q))=bif Nat.ble 1 n then pe o k else .bad:=(rfl)
@[go_sem] theorem Fx:opS ⟨ts,ops,g,⟨t,h⟩,nx⟩ (.fieldAddr ty x f)=an ts ty fun ti=>Ir (aO ops g (raw t x)) (nth ti.fields f):=(rfl)
@[go_sem] theorem Lx:opS ⟨ts,ops,g,⟨t,h⟩,nx⟩ (.field ty x f)=an ts ty fun ti=>kK (nth ti.fields f) (pb (aO ops g (raw t x))):=(rfl)
@[go_sem] theorem Fy:opS ⟨ts,ops,g,⟨t,h⟩,nx⟩ (.indexAddr ty x y)=an ts ty fun ti=>an ts ti.elem fun te=>d6 ti te.size h (aO ops g (raw t x)) (aO ops g (raw t y)):=(rfl)
@[go_sem] theorem Ly:opS ⟨ts,ops,g,⟨t,h⟩,nx⟩ (.panic x)=C6 (aO ops g (raw t x)):=(rfl)
@[go_sem] theorem A9:opS ⟨ts,ops,g,⟨t,h⟩,nx⟩ (.makeInterface ty x)=an ts ty fun ti=>bif ti.iface then .bad else sD ty (aO ops g (raw t x)):=(rfl)
@[go_sem] theorem DZ {ok:Bool}:opS ⟨ts,ops,g,⟨t,h⟩,nx⟩ (.typeAssert x n ty ok)=an ts ty fun ti=>taS ty ok ti (aO ops g (raw t x)):=(rfl)
@[go_sem] theorem Is:opS ⟨ts,ops,g,⟨t,h⟩,nx⟩ (.extract x n)=C4 n (aO ops g (raw t x)):=(rfl)
@[go_sem] theorem Fz:opS ⟨ts,ops,g,⟨t,h⟩,nx⟩ (.makeSlice ty x y)=an ts ty fun ti=>an ts ti.elem fun te=>bif ti.isSlice then(bif te.isSlice then an ts te.elem fun tr=>um nx te tr (aO ops g (raw t x)) (aO ops g (raw t y))else mkS nx te (aO ops g (raw t x)) (aO ops g (raw t y)))else .bad:=(rfl)
@[go_sem] theorem Lz {lo hi:Option Operand}:opS ⟨ts,ops,g,⟨t,h⟩,nx⟩ (.slice ty x lo hi none)=an ts ty fun ti=>an ts ti.elem fun te=>gR ti te.size nx h (iG ⟨ts,ops,g,⟨t,h⟩,nx⟩ lo) (iG ⟨ts,ops,g,⟨t,h⟩,nx⟩ hi) (uM hi&&xA ops) (aO ops g (raw t x)):=(rfl)
@[go_sem] theorem NA {lo hi:Option Operand}{m:Operand}:opS ⟨ts,ops,g,⟨t,h⟩,nx⟩ (.slice ty x lo hi (some m))=an ts ty fun ti=>an ts ti.elem fun _=>sG ti (iG ⟨ts,ops,g,⟨t,h⟩,nx⟩ lo) (iG ⟨ts,ops,g,⟨t,h⟩,nx⟩ hi) (aO ops g (raw t m)) (aO ops g (raw t x)):=(rfl)
@[go_sem] theorem It:opS ⟨ts,ops,g,⟨t,h⟩,nx⟩ (.makeMap ty none)=an ts ty fun ti=>mmR nx ti.mkt ti.mvt:=(rfl)
@[go_sem] theorem JI {ok:Bool}:opS ⟨ts,ops,g,⟨t,h⟩,nx⟩ (.lookup ty x y ok)=an ts ty fun ti=>lg ti h ok (aO ops g (raw t y)) (aO ops g (raw t x)):=(rfl)
@[go_sem] theorem FA:opS ⟨ts,ops,g,⟨t,h⟩,nx⟩ (.mapUpdate ty x y a)=an ts ty fun ti=>rO ti h (aO ops g (raw t y)) (aO ops g (raw t a)) (aO ops g (raw t x)):=(rfl)
@[go_sem] theorem JJ:opS ⟨ts,ops,g,⟨t,h⟩,nx⟩ (.insert ty x y a)=an ts ty fun ti=>rO ti h (aO ops g (raw t y)) (aO ops g (raw t a)) (aO ops g (raw t x)):=(rfl)
@[go_sem] theorem Gs:opS ⟨ts,ops,g,⟨t,h⟩,nx⟩ (.mapEntry ty x y)=an ts ty fun ti=>od ti nx h (aO ops g (raw t y)) (aO ops g (raw t x)):=(rfl)
@[go_sem] theorem D0:opS ⟨ts,ops,g,⟨t,h⟩,nx⟩ (.entryStore ty x y a)=an ts ty fun ti=>wc ti h (aO ops g (raw t a)) (aO ops g (raw t x)) (aO ops g (raw t y)):=(rfl)
@[go_sem] theorem NB {args:List Operand}{tys:Array TypeId}:opS ⟨ts,ops,g,⟨t,h⟩,nx⟩ (.call ⟨.value x,args.toArray,tys⟩)=pf (bT ⟨ts,ops,g,⟨t,h⟩,nx⟩ args) (aO ops g (raw t x)):=(rfl)
@[go_sem] theorem Pg {args:List Operand}:opS ⟨ts,ops,g,⟨t,h⟩,nx⟩ (.call ⟨.builtin .len,args.toArray,[ty].toArray⟩)=an ts ty fun ti=>lD ti h (bT ⟨ts,ops,g,⟨t,h⟩,nx⟩ args):=(rfl)
@[go_sem] theorem JK {args:List Operand}:opS ⟨ts,ops,g,⟨t,h⟩,nx⟩ (.call ⟨.builtin .append,args.toArray,[ty,n].toArray⟩)=an ts ty fun ti=>an ts n fun ti2=>an ts ti.elem fun te=>bif ti.isSlice&&ti2.isSlice then gE te nx h (bT ⟨ts,ops,g,⟨t,h⟩,nx⟩ args)else .bad:=(rfl)
@[go_sem] theorem JM {args:List Operand}{tys:List TypeId}:opS ⟨ts,ops,g,⟨t,h⟩,nx⟩ (.call ⟨.builtin .delete,args.toArray,(ty::tys).toArray⟩)=an ts ty fun ti=>oK ti h (bT ⟨ts,ops,g,⟨t,h⟩,nx⟩ args):=(rfl)
@[go_sem] theorem LA {args:List Operand}:opS ⟨ts,ops,g,⟨t,h⟩,nx⟩ (.call ⟨.builtin .clear,args.toArray,[ty].toArray⟩)=an ts ty fun ti=>an ts ti.elem fun te=>oJ ti te h (bT ⟨ts,ops,g,⟨t,h⟩,nx⟩ args):=(rfl)
@[go_sem] theorem Ph {args:List Operand}{tys:Array TypeId}:opS cx (.call ⟨.builtin .min,args.toArray,tys⟩)=wa (bT cx args):=(rfl)
@[go_sem] theorem Pi {args:List Operand}{tys:Array TypeId}:opS cx (.call ⟨.builtin .max,args.toArray,tys⟩)=wb (bT cx args):=(rfl)
@[go_sem] theorem LB:opS ⟨ts,ops,g,⟨t,h⟩,nx⟩ (.range ty x)=an ts ty fun ti=>sI ti nx h (aO ops g (raw t x)):=(rfl)
@[go_sem] theorem NC:opS ⟨ts,ops,g,⟨t,h⟩,nx⟩ (.next x false)=Dd (aO ops g (raw t x)):=(rfl)
@[go_sem] theorem LD:opS ⟨ts,ops,g,⟨t,h⟩,nx⟩ (.entry x)=rh h (aO ops g (raw t x)):=(rfl)
@[go_sem] theorem LF:fpO ⟨ts,ops,g,⟨t,h⟩,nx⟩ (.range ty x)=(du (aO ops g (raw t x)),[]):=(rfl)
@[go_sem] theorem ND {s:Bool}:fpO cx (.next x s)=([],[]):=(rfl)
@[go_sem] theorem LG:fpO ⟨ts,ops,g,⟨t,h⟩,nx⟩ (.entry x)=(du (aO ops g (raw t x))++Dg h (aO ops g (raw t x)),[]):=(rfl)
@[go_sem] theorem NE:fpO ⟨ts,ops,g,⟨t,h⟩,nx⟩ (.load ty a)=(du (aO ops g (raw t a)),[]):=(rfl)
@[go_sem] theorem LH:fpO ⟨ts,ops,g,⟨t,h⟩,nx⟩ (.store ty a x)=(du (aO ops g (raw t a))++du (aO ops g (raw t x)),[]):=(rfl)
@[go_sem] theorem FB:fpO ⟨ts,ops,g,⟨t,h⟩,nx⟩ (.indexAddr ty x y)=(du (aO ops g (raw t x)),[]):=(rfl)
@[go_sem] theorem LI {lo hi mx:Option Operand}:fpO ⟨ts,ops,g,⟨t,h⟩,nx⟩ (.slice ty x lo hi mx)=(du (aO ops g (raw t x)),[]):=(rfl)
@[go_sem] theorem JN {ok:Bool}:fpO ⟨ts,ops,g,⟨t,h⟩,nx⟩ (.lookup ty x y ok)=bif ok then(du (aO ops g (raw t x)),[])else([],du (aO ops g (raw t x))):=(rfl)
@[go_sem] theorem FC:fpO ⟨ts,ops,g,⟨t,h⟩,nx⟩ (.mapUpdate ty x y a)=(du (aO ops g (raw t x)),[]):=(rfl)
@[go_sem] theorem JO:fpO ⟨ts,ops,g,⟨t,h⟩,nx⟩ (.insert ty x y a)=(du (aO ops g (raw t x)),[]):=(rfl)
@[go_sem] theorem Gt:fpO ⟨ts,ops,g,⟨t,h⟩,nx⟩ (.mapEntry ty x y)=(du (aO ops g (raw t x)),[]):=(rfl)
@[go_sem] theorem D1:fpO ⟨ts,ops,g,⟨t,h⟩,nx⟩ (.entryStore ty x y a)=(du (aO ops g (raw t x)),[]):=(rfl)
@[go_sem] theorem Pj {args:List Operand}{tys:Array TypeId}:fpO ⟨ts,ops,g,⟨t,h⟩,nx⟩ (.call ⟨.builtin .len,args.toArray,tys⟩)=(jg (bT ⟨ts,ops,g,⟨t,h⟩,nx⟩ args),[]):=(rfl)
@[go_sem] theorem JP {args:List Operand}{tys:Array TypeId}:fpO ⟨ts,ops,g,⟨t,h⟩,nx⟩ (.call ⟨.builtin .append,args.toArray,tys⟩)=(jg (bT ⟨ts,ops,g,⟨t,h⟩,nx⟩ args),[]):=(rfl)
@[go_sem] theorem JQ {args:List Operand}{tys:Array TypeId}:fpO ⟨ts,ops,g,⟨t,h⟩,nx⟩ (.call ⟨.builtin .delete,args.toArray,tys⟩)=(jg (bT ⟨ts,ops,g,⟨t,h⟩,nx⟩ args),[]):=(rfl)
@[go_sem] theorem LJ {args:List Operand}{tys:Array TypeId}:fpO ⟨ts,ops,g,⟨t,h⟩,nx⟩ (.call ⟨.builtin .clear,args.toArray,tys⟩)=(jg (bT ⟨ts,ops,g,⟨t,h⟩,nx⟩ args),[]):=(rfl)
@[go_sem] theorem NF:fpO cx (.move x)=([],[]):=(rfl)
@[go_sem] theorem JR:fpO cx (.assign x)=([],[]):=(rfl)
@[go_sem] theorem NG:fpO cx (.pick x a b)=([],[]):=(rfl)
@[go_sem] theorem LK:fpO cx (.alloc ty)=([],[]):=(rfl)
@[go_sem] theorem Pm:fpO cx (.box ty x)=([],[]):=(rfl)
@[go_sem] theorem LL {parts:Array (Nat×Operand)}:fpO cx (.build ty parts)=([],[]):=(rfl)
@[go_sem] theorem D2 {parts:Array (Nat×Operand)}:fpO cx (.buildSlice ty n parts)=([],[]):=(rfl)
@[go_sem] theorem Gu:fpO cx (.nilCheck x)=([],[]):=(rfl)
@[go_sem] theorem LM {op:BinOp}:fpO cx (.binOp op ty x y n)=([],[]):=(rfl)
@[go_sem] theorem NH {op:UnOp}:fpO cx (.unOp op ty x)=([],[]):=(rfl)
@[go_sem] theorem Iu:fpO cx (.convert n ty x)=([],[]):=(rfl)
@[go_sem] theorem Gv {fn:Fn}{first caps:Array Operand}:fpO cx (.makeFunc fn first caps)=([],[]):=(rfl)
@[go_sem] theorem FD:fpO cx (.fieldAddr ty x f)=([],[]):=(rfl)
@[go_sem] theorem LN:fpO cx (.field ty x f)=([],[]):=(rfl)
@[go_sem] theorem LO:fpO cx (.panic x)=([],[]):=(rfl)
@[go_sem] theorem A_:fpO cx (.makeInterface ty x)=([],[]):=(rfl)
@[go_sem] theorem D3 {ok:Bool}:fpO cx (.typeAssert x n ty ok)=([],[]):=(rfl)
@[go_sem] theorem Iv:fpO cx (.extract x n)=([],[]):=(rfl)
@[go_sem] theorem FE:fpO cx (.makeSlice ty x y)=([],[]):=(rfl)
@[go_sem] theorem Iw {o:Option Operand}:fpO cx (.makeMap ty o)=([],[]):=(rfl)
@[go_sem] theorem NI {args:Array Operand}{tys:Array TypeId}:fpO cx (.call ⟨.value x,args,tys⟩)=([],[]):=(rfl)
@[go_sem] theorem Pn {args:Array Operand}{tys:Array TypeId}:fpO cx (.call ⟨.builtin .min,args,tys⟩)=([],[]):=(rfl)
@[go_sem] theorem Po {args:Array Operand}{tys:Array TypeId}:fpO cx (.call ⟨.builtin .max,args,tys⟩)=([],[]):=(rfl)
@[go_sem] theorem LP {k:TI->OR}:an ts ty k=zW k (ts ty):=by unfold an zW;cases ts ty <;>rfl
@[go_sem] theorem JS {k:TI->OR}{i:TI}:zW k (some i)=k i:=(rfl)
@[go_sem] theorem Ix {c:Operand}{j:Nat}{w want:Bool}{s:SV}:fQ ops g c want (.gd j w s)=bif qt w want&&uL ops j c then s else aO ops g (.gd j w s):=(rfl)
@[go_sem] theorem Gw {c:Operand}{want:Bool}:fQ ops g c want .any=.any:=(rfl)
@[go_sem] theorem JT {c:Operand}{want:Bool}{v:Value}:fQ ops g c want (.v v)=.v v:=(rfl)
@[go_sem] theorem Pp {a b:Operand}{x y z:Bool}:sw a b (.v (.bool x)) (.v (.bool y)) (.v (.bool z))=bif qx a then .val (.b (x||z))else bif nL b then .val (.b (x&&y))else .bad:=(rfl)
@[go_sem] theorem Pq {a b:Operand}{x z:Bool}:sw a b (.v (.bool x)) .any (.v (.bool z))=.chk (x=false) (.b z):=(rfl)
@[go_sem] theorem Pr {a b:Operand}{x y:Bool}:sw a b (.v (.bool x)) (.v (.bool y)) .any=.chk (x=true) (.b y):=(rfl)
@[go_sem] theorem LQ {st:St}:nf ops st=cleanF (bif ops.any (·.guard.isSome)then ⟨ungd st.t,st.h⟩else st):=(rfl)
@[go_sem] theorem LR {t:List (Nat×SV)}{h:List Ob}:cleanF ⟨t,h⟩=bif gS h then ⟨zi h t,ot h⟩else ⟨t,h⟩:=(rfl)
@[go_sem] theorem Ps {n:Nat}:raw t (.tmp n)=lk n t:=(rfl)
@[go_sem] theorem LS {x:Value}:raw t (.const x)=.v x:=(rfl)
@[go_sem] theorem NJ {f:FuncId}:raw t (.func f)=.fn f [] []:=(rfl)
@[go_sem] theorem QI {n:Nat}{s:SV}{r:List (Nat×SV)}:lk n ((n,s)::r)=s:=by simp[lk]
@[go_sem] theorem Pt {n a:Nat}{s:SV}{r:List (Nat×SV)}:lk n ((a,s)::r)=bif Nat.beq a n then s else lk n r:=(rfl)
@[go_sem] theorem QJ {n:Nat}:lk n []=.any:=(rfl)
@[go_sem] theorem Pu {x:Value}:aO ops g (.v x)=(.v x):=(rfl)
@[go_sem] theorem LU:aO ops g .any=.any:=(rfl)
@[go_sem] theorem LV {a b:Nat}:aO ops g (.ptr a b)=(.ptr a b):=(rfl)
@[go_sem] theorem NK {a:Nat}:aO ops g (.os a)=(.os a):=(rfl)
@[go_sem] theorem NL {a b:Nat}{c d:Int}:aO ops g (.vw a b c d)=(.vw a b c d):=(rfl)
@[go_sem] theorem NM:aO ops g .e0=.e0:=(rfl)
@[go_sem] theorem NN {k:Tag}{l:List k.T}:aO ops g (.rc k l)=.rc k l:=(rfl)
@[go_sem] theorem NO {a b d:Nat}{c:Int}:aO ops g (.rp a b c d)=(.rp a b c d):=(rfl)
@[go_sem] theorem NP {a:Nat}{i:Int}:aO ops g (.gr a i)=(.gr a i):=(rfl)
@[go_sem] theorem NQ {a b d:Nat}{i j:Int}:aO ops g (.gp a b i j d)=(.gp a b i j d):=(rfl)
@[go_sem] theorem NR {a:List SV}{b:Nat}:aO ops g (.ep a b)=(.ep a b):=(rfl)
@[go_sem] theorem NS {k:Tag}{l:List k.T}:aO ops g (.rs k l)=(.rs k l):=(rfl)
@[go_sem] theorem NT {l:List SV}:aO ops g (.ls l)=(.ls l):=(rfl)
@[go_sem] theorem NU {k k2:Tag}{l:List (k.T×k2.T)}:aO ops g (.rm k k2 l)=(.rm k k2 l):=(rfl)
@[go_sem] theorem LW {l:List SV}:aO ops g (.agg l)=(.agg l):=(rfl)
@[go_sem] theorem LX {l:List SV}:aO ops g (.tup l)=(.tup l):=(rfl)
@[go_sem] theorem NV {f:FuncId}{l m:List SV}:aO ops g (.fn f l m)=(.fn f l m):=(rfl)
@[go_sem] theorem NW {j:Nat}{b:Bool}{s:SV}:aO ops g (.gd j b s)=bif jx ops ops.length g j b then s else .any:=(rfl)
end
section
variable {ti te:TI}{esz nx id id2 off:Nat}{h:List Ob}{k k2:Tag}{i j n c:Int}{kk kj:IntKind}{lo hi:Option SV}{key s:SV}{ok:Bool}{ts:Tis}{op:BinOp}{ty:Nat}
@[go_sem] theorem one_1 {α:Type}{x:α}:one [x]=true:=(rfl)
@[go_sem] theorem one_2 {α:Type}{x y:α}{l:List α}:one (x::y::l)=false:=(rfl)
@[go_sem] theorem Pv {g:Option (Nat×Bool)}{l:List k.T}:ul g nx te (.newr (.rs k l))=bif(te.agg||one l)&&noG g then .eff True True [(nx,.row k l)] (.os nx)else .newr (.rs k l):=(rfl)
@[go_sem] theorem Pw {g:Option (Nat×Bool)}{l:List SV}:ul g nx te (.newr (.ls l))=.newr (.ls l):=(rfl)
@[go_sem] theorem Px {g:Option (Nat×Bool)}:ul g nx te (.newr .e0)=.newr .e0:=(rfl)
@[go_sem] theorem NX {a b:Int}:vY ts op ty (.v (.int kk a)) (.v (.int kj b))=bif pc op kk kj then lI op kk a b else .bad:=(rfl)
@[go_sem] theorem Py {l:List k.T}:vY ts op ty (.rs k l) (.v (.slice none 0 0))=an ts ty fun ti=>bif ti.isSlice then FI op (l=[])else .bad:=(rfl)
@[go_sem] theorem NY {a b:ByteArray}:vY ts op ty (.v (.string a)) (.v (.string b))=an ts ty fun ti=>bif Nat.beq ti.sc 2 then AD op a b else .bad:=(rfl)
@[go_sem] theorem LY {a b:Bool}:vY ts op ty (.v (.bool a)) (.v (.bool b))=an ts ty fun ti=>bif Nat.beq ti.sc 3 then vX op a b else .bad:=(rfl)
@[go_sem] theorem NZ {a b:List SV}:vY ts op ty (.agg a) (.agg b)=an ts ty fun ti=>eqT op a b ti:=(rfl)
@[go_sem] theorem LZ {l:List k.T}:d6 ti esz h (.rs k l) (.v (.int kk i))=bif ti.isSlice&&Nat.beq esz (aa k)then .chk (0<=i/\i< (l.length:Int)) (.ep (cellsOf k (l.getD i.toNat (di k))) 0)else .bad:=(rfl)
@[go_sem] theorem L1:d6 ti esz h (.os id) (.v (.int kk i))=bif ti.isSlice then sB esz id i (ae h id)else .bad:=(rfl)
@[go_sem] theorem L2:d6 ti esz h (.gr id i) (.v (.int kk j))=bif ti.isSlice then vZ esz id i j (ae h id)else .bad:=(rfl)
@[go_sem] theorem L3 {l:List SV}:d6 ti esz h (.ls l) (.v (.int kk i))=bif ti.isSlice&&Nat.beq esz 1 then y6 i (nth l i.toNat)else .bad:=(rfl)
@[go_sem] theorem JU:d6 ti esz h (.ptr id off) (.v (.int kk i))=bif ti.isArr then .chk (0<=i/\i< (ti.len:Int)) (.ptr id (off+i.toNat*esz))else .bad:=(rfl)
@[go_sem] theorem L4 {l:List SV}:d6 ti esz h (.ep l off) (.v (.int kk i))=bif ti.isArr then .chk (0<=i/\i< (ti.len:Int)) (.ep l (off+i.toNat*esz))else .bad:=(rfl)
@[go_sem] theorem L5 {z:Nat}:d6 ti esz h (.rp z id i off) (.v (.int kk j))=bif ti.isArr then .chk (0<=j/\j< (ti.len:Int)) (.rp z id i (off+j.toNat*esz))else .bad:=(rfl)
@[go_sem] theorem Pz {l:List k.T}:lD ti h [.rs k l]=bif ti.isSlice then .asm (l.length<=bR) (.i l.length)else .bad:=(rfl)
@[go_sem] theorem N0:lD ti h [.v (.slice none 0 0)]=bif ti.isSlice then .val (.i 0)else .bad:=(rfl)
@[go_sem] theorem PA {l:List k.T}:lD ti h [.rc k l]=bif ti.isSlice then .asm (l.length<=bR) (.i l.length)else .bad:=(rfl)
@[go_sem] theorem PB:lD ti h [.e0]=bif ti.isSlice then .val (.i 0)else .bad:=(rfl)
@[go_sem] theorem PC:lD ti h [.os id]=bif ti.isSlice then C5 (ae h id)else FL ti.mkt (ae h id):=(rfl)
@[go_sem] theorem PD:lD ti h [.gr id i]=bif ti.isSlice then FK i (ae h id)else .bad:=(rfl)
@[go_sem] theorem PE {l:List SV}:lD ti h [.ls l]=bif ti.isSlice then .val (.i (sz l))else .bad:=(rfl)
@[go_sem] theorem N1 {a b:Int}{l:List k.T}:sG ti none (some (.v (.int .i64 a))) (.v (.int .i64 b)) (.rs k l)=bif ti.isSlice then .chk (a=(l.length:Int)/\b=(l.length:Int)) (.rc k l)else .bad:=(rfl)
@[go_sem] theorem L6:sG ti none (some (.v (.int .i64 0))) (.v (.int .i64 0)) (.v (.slice none 0 0))=bif ti.isSlice then .val (.v (.slice none 0 0))else .bad:=(rfl)
@[go_sem] theorem L7 {l:List k.T}{vq:Bool}:gR ti esz nx h lo hi vq (.rs k l)=bif ti.isSlice&&Nat.beq esz (aa k)then Da k l (bnd 0 lo) (bnd l.length hi)else .bad:=(rfl)
@[go_sem] theorem L8 {vq:Bool}:gR ti esz nx h lo hi vq (.os id)=bif ti.isSlice then(bif vq then AJ esz id lo (ae h id)else Db esz id nx lo hi (ae h id))else .bad:=(rfl)
@[go_sem] theorem JV {n:Nat}{a:Int}:Dc esz id n (some a)=.chk (0<=a/\a<=(n:Int)) (.vw esz id a n):=(rfl)
@[go_sem] theorem N2 {d:Int}:bnd d none=some d:=(rfl)
@[go_sem] theorem N3 {d:Int}:bnd d (some (.v (.int kk n)))=some n:=(rfl)
@[go_sem] theorem L9 {l:List k.T}{a b:Int}:Da k l (some a) (some b)=.chk (0<=a/\a<=b/\b<=(l.length:Int)) (.rs k ((l.take b.toNat).drop a.toNat)):=(rfl)
@[go_sem] theorem L_ {l:List k.T}{a b:Int}:FO id nx k l (some a) (some b)=.eff (0<=a/\a<=b/\b<=(l.length:Int)) True [(id,.dead),(nx,.row k ((l.take b.toNat).drop a.toNat))] (.os nx):=(rfl)
@[go_sem] theorem PG:mkS nx te (.v (.int .i64 n)) (.v (.int .i64 c))=mkT nx n c te te.tag:=(rfl)
@[go_sem] theorem PH:gE te nx h [.os id,.ls [.os id2]]=bif Nat.beq te.size 1&&Nat.beq (sz te.zero) 1&&Nat.ble 1 te.bytes&& !(Nat.beq id id2)then rg nx te.bytes h id2 [(id,.dead)] (ae h id)else .bad:=(rfl)
@[go_sem] theorem PI:gE te nx h [.v (.slice none 0 0),.ls [.os id2]]=bif Nat.beq te.size 1&&Nat.beq (sz te.zero) 1&&Nat.ble 1 te.bytes then C8 nx te.bytes id2 (ae h id2)else .bad:=(rfl)
@[go_sem] theorem Ma {l:List k.T}:gE te nx h [.os id,(.rs k l)]=mn te nx [(id,.dead)] h (.rs k l) (ae h id):=(rfl)
@[go_sem] theorem Mb {l:List k.T}:gE te nx h [.v (.slice none 0 0),(.rs k l)]=mo te nx h (.rs k l) te.tag:=(rfl)
@[go_sem] theorem PJ {l:List k.T}{src:SV}:gE te nx h [.rc k l,src]=BH te nx h src k l:=(rfl)
@[go_sem] theorem PK {l:List k.T}{src:SV}:BH te nx h src k l=bif Nat.beq te.size (aa k)&&Nat.beq (sz te.zero) te.size&&Nat.ble 1 te.bytes then AI k nx te.bytes l (la k h src)else .bad:=(rfl)
@[go_sem] theorem N4 {b:Nat}{l:List k.T}{x:k.T}{m:List k.T}:AI k nx b l (some (x::m))=.eff ((l++x::m).length*b<=fY) ((l++x::m).length<=bR) [(nx,.row k (l++x::m))] (.os nx):=(rfl)
@[go_sem] theorem Mc {l:List k.T}:gE te nx h [.e0,(.rs k l)]=mo te nx h (.rs k l) te.tag:=(rfl)
@[go_sem] theorem JW:gE te nx h [.os id,(.v (.slice none 0 0))]=mn te nx [(id,.dead)] h (.v (.slice none 0 0)) (ae h id):=(rfl)
@[go_sem] theorem JX:gE te nx h [.v (.slice none 0 0),(.v (.slice none 0 0))]=mo te nx h (.v (.slice none 0 0)) te.tag:=(rfl)
@[go_sem] theorem JY:gE te nx h [.e0,(.v (.slice none 0 0))]=mo te nx h (.v (.slice none 0 0)) te.tag:=(rfl)
@[go_sem] theorem Md:gE te nx h [.os id,.e0]=mn te nx [(id,.dead)] h .e0 (ae h id):=(rfl)
@[go_sem] theorem Me:gE te nx h [.v (.slice none 0 0),.e0]=mo te nx h .e0 te.tag:=(rfl)
@[go_sem] theorem Mf:gE te nx h [.e0,.e0]=mo te nx h .e0 te.tag:=(rfl)
@[go_sem] theorem Mg {s:Nat}{lo hi:Int}:gE te nx h [.os id,(.vw s id2 lo hi)]=mn te nx [(id,.dead)] h (.vw s id2 lo hi) (ae h id):=(rfl)
@[go_sem] theorem Mh {s:Nat}{lo hi:Int}:gE te nx h [.v (.slice none 0 0),(.vw s id2 lo hi)]=mo te nx h (.vw s id2 lo hi) te.tag:=(rfl)
@[go_sem] theorem Mi {s:Nat}{lo hi:Int}:gE te nx h [.e0,(.vw s id2 lo hi)]=mo te nx h (.vw s id2 lo hi) te.tag:=(rfl)
@[go_sem] theorem Mj:gE te nx h [.os id,(.os id2)]=bif Nat.beq id id2 then C9 te id (ae h id)else mn te nx [(id,.dead)] h (.os id2) (ae h id):=(rfl)
@[go_sem] theorem N5 {l:List k.T}:C9 te id (.row k l)=bif Nat.beq te.size (aa k)&&Nat.beq (sz te.zero) te.size&&Nat.ble 1 te.bytes then .eff ((l++l).length*te.bytes<=fY) ((l++l).length<=bR) [(id,.fz k l)] (.rs k (l++l))else .bad:=(rfl)
@[go_sem] theorem Mk:gE te nx h [.v (.slice none 0 0),(.os id2)]=mo te nx h (.os id2) te.tag:=(rfl)
@[go_sem] theorem Ml:gE te nx h [.e0,(.os id2)]=mo te nx h (.os id2) te.tag:=(rfl)
@[go_sem] theorem JZ {l:List k.T}:oq k k l=some l:=by simp[oq]
@[go_sem] theorem PL {l:List k2.T}:la k h (.rs k2 l)=oq k k2 l:=(rfl)
@[go_sem] theorem N6:la k h (.v (.slice none 0 0))=some []:=(rfl)
@[go_sem] theorem PM:la k h .e0=some []:=(rfl)
@[go_sem] theorem PN:la k h (.os id)=BG k (ae h id):=(rfl)
@[go_sem] theorem PO {s:Nat}{lo hi:Int}:la k h (.vw s id lo hi)=FM k s lo hi (ae h id):=(rfl)
@[go_sem] theorem N7:lg ti h ok key (.os id)=xC ti key ok (ae h id):=(rfl)
@[go_sem] theorem N8 {l:List (k.T×k2.T)}:lg ti h ok key (.rm k k2 l)=bif fG k ti.mkt&&fG k2 ti.mvt then sH k k2 l ok (unT k key)else .bad:=(rfl)
@[go_sem] theorem Mm:lg ti h ok key (.v (.map none))=AK key ok ti.mkt ti.mvt:=(rfl)
@[go_sem] theorem PQ {v:SV}:wc ti h v (.os id) (.os id2)=FP ti id id2 v (ae h id):=(rfl)
@[go_sem] theorem N9:qw (.v (.int kk n))=some [(.v (.int kk n))]:=(rfl)
@[go_sem] theorem N_ {b:ByteArray}:qw (.v (.string b))=some [.v (.string b)]:=(rfl)
@[go_sem] theorem Mn {b:Bool}:qw (.v (.bool b))=some [.v (.bool b)]:=(rfl)
@[go_sem] theorem PR {l:List k.T}:qw (.rs k l)=some [.rs k l]:=(rfl)
@[go_sem] theorem PS {l:List (k.T×k2.T)}:qw (.rm k k2 l)=some [.rm k k2 l]:=(rfl)
@[go_sem] theorem PT:qw .e0=some [.e0]:=(rfl)
@[go_sem] theorem Oa:qw (.v (.slice none 0 0))=some [.v (.slice none 0 0)]:=(rfl)
@[go_sem] theorem Mo:qw (.v (.map none))=some [.v (.map none)]:=(rfl)
@[go_sem] theorem Mq {t':TypeId}{y:Value}:taS ty ok ti (.v (.iface t' y))=bif ti.iface then .bad else bif Nat.beq t' ty then(bif ok then .val (.tup [.v y,.b true])else .val (.v y))else .bad:=(rfl)
end
@[go_sem] theorem nbeq (a b:Nat):Nat.beq a b=(a==b):=by
 rw[Bool.eq_iff_iff];simp
@[go_sem] theorem nble (a b:Nat):Nat.ble a b=decide (a<=b):=by
 rw[Bool.eq_iff_iff];simp
@[go_sem] theorem nblt (a b:Nat):Nat.blt a b=decide (a<b):=by
 rw[Bool.eq_iff_iff];simp[Nat.blt];omega
section
variable {σ:Type}{D:σ->St}{I:σ->Prop}{m:σ->Nat}{x:σ}{id n0:Nat}{Q:Ex->St->Prop}{st:St}{rs:List ResultVar}{post:SV->Prop}{ts:Tis}{pp:Value->Prop}{C:HCon}{md:Bool}
@[go_sem] theorem FF:mu D I m n0 x id Q .normal st= ∃ y js,I y/\m y<m x/\n0<=(D y).h.length/\Sub js n0 st (D y):=(rfl)
@[go_sem] theorem Iy {j:Nat}:mu D I m n0 x id Q (.exit j) st=bif Nat.beq j id then Q .normal st else Q (.exit j) st:=(rfl)
@[go_sem] theorem J0:mu D I m n0 x id Q .ret st=Q .ret st:=(rfl)
@[go_sem] theorem J1 {v:Value}:mu D I m n0 x id Q (.pan v) st=Q (.pan v) st:=(rfl)
@[go_sem] theorem FG {s:SV}:c9 post (some s)=post s:=(rfl)
@[go_sem] theorem Mr:xI md rs ts post pp .ret st=c9 post (oN md rs ts st):=(rfl)
@[go_sem] theorem Gx:xI md rs ts post pp .normal st=c9 post (oN md rs ts st):=(rfl)
@[go_sem] theorem Ms {x:Value}:xI md rs ts post pp (.pan x) st=pp x:=(rfl)
@[go_sem] theorem Gy:xJ n0 rs ts C .normal st=pj n0 C (jh (ir ts st rs)) st.h:=(rfl)
@[go_sem] theorem Mt:xJ n0 rs ts C .ret st=pj n0 C (jh (ir ts st rs)) st.h:=(rfl)
@[go_sem] theorem Mu {v:Value}:xJ n0 rs ts C (.pan v) st= ∃ r h' js,C.post r/\C.res r=.pan v h'/\n0<=h'.length/\Sub js n0 ⟨[],st.h⟩ ⟨[],h'⟩:=(rfl)
@[go_sem] theorem J2 {s:SV}{h:List Ob}:pj n0 C (some s) h= ∃ r s' h' js,C.post r/\C.res r=.ret s' h'/\n0<=h'.length/\Sub js n0 ⟨[(0,s)],h⟩ ⟨[(0,s')],h'⟩:=(rfl)
@[go_sem] theorem QK {js:List Nat}{t t2:List (Nat×SV)}{h h2:List Ob}:Sub js n0 ⟨t,h⟩ ⟨t2,h2⟩=((uniq (gF js h2)=true/\qA 0 js n0=true/\js.all (fun j=>Nat.blt j h.length)=true)/\BQ (rQ js) h2.length t t2/\un (rQ js) h2.length h js h2):=(rfl)
end
attribute [go_sem] decide_true decide_false cond_true cond_false List.any_cons List.any_nil Option.isSome_none Option.isSome_some Bool.or_false Bool.false_or Bool.or_true Bool.true_or Bool.and_true Bool.true_and Bool.and_false Bool.false_and Bool.not_true Bool.not_false List.length_cons List.length_nil List.map_cons List.map_nil List.flatMap_cons List.flatMap_nil List.append_nil List.isEmpty_nil List.isEmpty_cons Option.map_some Option.map_none Option.bind_some Option.getD_some Option.getD_none Option.toList_some Option.toList_none List.cons_append List.nil_append Nat.zero_add Nat.add_zero Nat.zero_mul Nat.mul_one Nat.one_mul
 jx qt nth uL lI pc FI AD vX eqV oI eqL eqO eqT IL kN pb unS lJ jE pd sA qy pe sB vZ y6 gi kg rN kK y8 v6 y9 y_ za jZ j5 sC CV v7 um FN C_ gS AO ot IZ zi Dk IY CW xy v8 zc CX lsS bsT bsU M6 osL osV C3 FJ H1 bsG bsS noG C4 pf C5 FL FK wa wb C6 sD xB BG FM AJ C7 mn sE rg C8 mo mkT Db sH fG uM noE xC AK IT IU rO BI BJ od IV FP IW IX oK IS oJ AH mmR zsO svT rf unT iH MV
 co dD mq FR AN Dh frz FT BK dl ungd bO dW av j6 er dm Di reach rP oe pg ren mr zf inN km kh fH gP ae bf aD c8 du wd jg eO BL lh MZ M0 CY AE CZ M3 IN zd AF xz C0 IP xA M4 IQ C2 IR M5 AG H0 uk fpU sJ jf cut xx sz jY su setCells cellsOf iI lG b9 fit lF toI toB toS toF fnV qq sg sh qr sj vV sn so xp re xq ld Az xr o_ uJ sp uK AA
 at0 mkE xu oc qs dJ o9 di aa qx nL bT dP iG FV BO xG ir jh M8 pi nh ov rj H5 mt uniq BP oN FQ sI Dd De AL rh Dg Df Option.bind_some y7 mm List.all_cons List.all_nil rank xo BQ un wh xH wkL sO unp bZ mM gQ gF qA rQ
end Go.Sx
end
section
namespace Go.Sx
open IntKind (i64)
open Go.RowKit
universe u
variable {P:Program}
theorem Tis.ok_leaf {n:Nat}{x:TI}(h:cr P n=some x):Tis.ok (fun t=>bif Nat.beq t n then some x else none) P:=fun t i hi=>by
 change (bif Nat.beq t n then some x else none)=some i at hi;cases hb:Nat.beq t n with
 |false=>rw[hb]at hi;cases hi
 |true=>rw[hb]at hi;cases hi;rw[Nat.eq_of_beq_eq_true hb];exact h
theorem Tis.ok_node {n:Nat}{f g:Tis}(hf:Tis.ok f P)(hg:Tis.ok g P):Tis.ok (fun t=>bif Nat.ble t n then f t else g t) P:=fun t i hi=>by
 change (bif Nat.ble t n then f t else g t)=some i at hi;cases hb:Nat.ble t n with
 |false=>rw[hb]at hi;exact hg t i hi
 |true=>rw[hb]at hi;exact hf t i hi
def ag (f:Func):Code:=match f.body with|some c=>c|none=>.skip
def L0:mL:=fun _ _=>none
@[go_sem] theorem PU {n:Nat}{st:St}:L0 n st=none:=(rfl)
def mkP:List (Nat×(List SV->Option Con))->FuncId->List SV->Option Con
 | [],_,_=>none
 |(n,C)::r,f,l=>bif Nat.beq n f then C l else mkP r f l
def mkO:List (Nat×(List SV->List Ob->Option HCon))->FuncId->List SV->List Ob->Option HCon
 | [],_,_,_=>none
 |(n,C)::r,f,l,h=>bif Nat.beq n f then C l h else mkO r f l h
theorem zX:∀ (ps:List (Nat×(List SV->Option Con))),(∀ x∈ps,FnOk P x.1 x.2)->∀ f,FnOk P f (mkP ps f)
 | [],_,f=>⟨fun l c h=>(by cases h),fun l c h=>(by cases h)⟩
 |(n,C)::r,h,f=>by
  have ih:=zX r (fun x hx=>h x (by simp[hx])) f;cases hb:Nat.beq n f with
  |false=>
   have e:mkP ((n,C)::r) f=mkP r f:=by funext l;simp only[mkP,hb,cond_false]
   rw[e];exact ih
  |true=>
   have e:mkP ((n,C)::r) f=C:=by funext l;simp only[mkP,hb,cond_true]
   rw[e,<-Nat.eq_of_beq_eq_true hb];exact h (n,C) (by simp)
theorem zY:∀ (os:List (Nat×(List SV->List Ob->Option HCon))),(∀ x∈os,FnOkO P x.1 x.2)->∀ f,FnOkO P f (mkO os f)
 | [],_,f=>⟨fun l h c hc=>(by cases hc),fun l h c hc=>(by cases hc)⟩
 |(n,C)::r,h,f=>by
  have ih:=zY r (fun x hx=>h x (by simp[hx])) f;cases hb:Nat.beq n f with
  |false=>
   have e:mkO ((n,C)::r) f=mkO r f:=by funext l h;simp only[mkO,hb,cond_false]
   rw[e];exact ih
  |true=>
   have e:mkO ((n,C)::r) f=C:=by funext l h;simp only[mkO,hb,cond_true]
   rw[e,<-Nat.eq_of_beq_eq_true hb];exact h (n,C) (by simp)
def noY:List SV->Res->Option YCon:=fun _ _=>none
theorem J3:YOk P noY:=fun l r c h=>(by cases h)
def mkG (ps:List (Nat×(List SV->Option Con)))(os:List (Nat×(List SV->List Ob->Option HCon))):Cons:=⟨mkP ps,mkO os,noY⟩
theorem aV {ps:List (Nat×(List SV->Option Con))}{os:List (Nat×(List SV->List Ob->Option HCon))}(h1:∀ x∈ps,FnOk P x.1 x.2)(h2:∀ x∈os,FnOkO P x.1 x.2):ConsOk P (mkG ps os):=⟨zX ps h1,zY os h2,J3⟩
@[go_sem] theorem mkG_p {ps:List (Nat×(List SV->Option Con))}{os:List (Nat×(List SV->List Ob->Option HCon))}:(mkG ps os).p=mkP ps:=(rfl)
@[go_sem] theorem mkG_o {ps:List (Nat×(List SV->Option Con))}{os:List (Nat×(List SV->List Ob->Option HCon))}:(mkG ps os).o=mkO os:=(rfl)
@[go_sem] theorem PV {f:FuncId}{l:List SV}:mkP [] f l=none:=(rfl)
@[go_sem] theorem Oc {n f:Nat}{C:List SV->Option Con}{r:List (Nat×(List SV->Option Con))}{l:List SV}:mkP ((n,C)::r) f l=bif Nat.beq n f then C l else mkP r f l:=(rfl)
@[go_sem] theorem PW {f:FuncId}{l:List SV}{h:List Ob}:mkO [] f l h=none:=(rfl)
@[go_sem] theorem Od {n f:Nat}{C:List SV->List Ob->Option HCon}{r:List (Nat×(List SV->List Ob->Option HCon))}{l:List SV}{h:List Ob}:mkO ((n,C)::r) f l h=bif Nat.beq n f then C l h else mkO r f l h:=(rfl)
section
variable {α:Type u}
def pI (k:Int->List SV->Option α):List SV->Option α
 | .v (.int .i64 n)::r=>k n r
 |_=>none
def pU (k:Int->List SV->Option α):List SV->Option α
 | .v (.int .u64 n)::r=>k n r
 |_=>none
def pB (k:Bool->List SV->Option α):List SV->Option α
 | .v (.bool b)::r=>k b r
 |_=>none
def pS (k:ByteArray->List SV->Option α):List SV->Option α
 | .v (.string b)::r=>k b r
 |_=>none
def vr (t:Tag)(k:List t.T->List SV->Option α)(r:List SV)(k':Tag)(l:List k'.T):Option α:=if h:k'=t then k (h▸l) r else none
def pR (t:Tag)(k:List t.T->List SV->Option α):List SV->Option α
 | .rs k' l::r=>vr t k r k' l
 |_=>none
def pDo {T:Type}(k:T->List SV->Option α)(r:List SV):Option T->Option α
 |some x=>k x r
 |none=>none
def pD (t:Tag)(k:t.T->List SV->Option α):List SV->Option α
 | .agg l::r=>pDo k r (lG t l)
 |_=>none
def pX (t:Tag)(k:t.T->List SV->Option α):List SV->Option α
 | .ep l 0::r=>pDo k r (lG t l)
 |_=>none
def D4 (t t2:Tag)(k:List (t.T×t2.T)->List SV->Option α)(r:List SV)(k' k2:Tag)(l:List (k'.T×k2.T)):Option α:=if h:k'=t/\k2=t2 then k (h.1▸h.2▸l) r else none
def pM (t t2:Tag)(k:List (t.T×t2.T)->List SV->Option α):List SV->Option α
 | .rm k' k2 l::r=>D4 t t2 k r k' k2 l
 |_=>none
def pE (c:α):List SV->Option α
 | [] =>some c
 |_=>none
variable {k:Int->List SV->Option α}{kb:Bool->List SV->Option α}{ks:ByteArray->List SV->Option α}{r:List SV}{c:α}{t:Tag}
@[go_sem] theorem PX {n:Int}:pI k (.v (.int .i64 n)::r)=k n r:=(rfl)
@[go_sem] theorem PY {n:Int}:pU k (.v (.int .u64 n)::r)=k n r:=(rfl)
@[go_sem] theorem PZ {b:Bool}:pB kb (.v (.bool b)::r)=kb b r:=(rfl)
@[go_sem] theorem P0 {b:ByteArray}:pS ks (.v (.string b)::r)=ks b r:=(rfl)
@[go_sem] theorem P1 {kr:List t.T->List SV->Option α}{l:List t.T}:pR t kr (.rs t l::r)=kr l r:=by simp[pR,vr]
@[go_sem] theorem P2 {kd:t.T->List SV->Option α}{l:List SV}:pD t kd (.agg l::r)=pDo kd r (lG t l):=(rfl)
@[go_sem] theorem P3 {kd:t.T->List SV->Option α}{l:List SV}:pX t kd (.ep l 0::r)=pDo kd r (lG t l):=(rfl)
@[go_sem] theorem P4 {t2:Tag}{kr:List (t.T×t2.T)->List SV->Option α}{l:List (t.T×t2.T)}:pM t t2 kr (.rm t t2 l::r)=kr l r:=by simp[pM,D4]
@[go_sem] theorem Oe {T:Type}{kd:T->List SV->Option α}{x:T}:pDo kd r (some x)=kd x r:=(rfl)
@[go_sem] theorem QL:pE c []=some c:=(rfl)
theorem J4 {l:List SV}{c:α}(h:pI k l=some c):∃ n r,l=.v (.int .i64 n)::r/\k n r=some c:=by
 unfold pI at h;split at h
 ·exact⟨_,_,rfl,h⟩
 ·cases h
theorem wN {l:List SV}{c:α}(h:pU k l=some c):∃ n r,l=.v (.int .u64 n)::r/\k n r=some c:=by
 unfold pU at h;split at h
 ·exact⟨_,_,rfl,h⟩
 ·cases h
theorem J5 {l:List SV}{c:α}(h:pB kb l=some c):∃ n r,l=.v (.bool n)::r/\kb n r=some c:=by
 unfold pB at h;split at h
 ·exact⟨_,_,rfl,h⟩
 ·cases h
theorem zZ {l:List SV}{c c':α}(h:pE c' l=some c):l=[]/\c=c':=by
 unfold pE at h;split at h
 ·cases h;exact⟨rfl,rfl⟩
 ·cases h
theorem J6 {kr:List t.T->List SV->Option α}{l:List SV}{c:α}(h:pR t kr l=some c):∃ x r,l=.rs t x::r/\kr x r=some c:=by
 unfold pR at h;split at h
 ·rename_i k' l' r;unfold vr at h;split at h
  ·rename_i e;subst e;exact⟨_,_,rfl,h⟩
  ·cases h
 ·cases h
theorem J7 {kd:t.T->List SV->Option α}{l:List SV}{c:α}(h:pX t kd l=some c):∃ x r,l=.ep (cellsOf t x) 0::r/\kd x r=some c:=by
 unfold pX at h;split at h
 ·rename_i l' r;cases he:lG t l' with
  |none=>rw[he]at h;cases h
  |some x=>rw[he]at h;exact⟨x,r,by rw[jK he],h⟩
 ·cases h
theorem D5 {t2:Tag}{kr:List (t.T×t2.T)->List SV->Option α}{l:List SV}{c:α}(h:pM t t2 kr l=some c):∃ x r,l=.rm t t2 x::r/\kr x r=some c:=by
 unfold pM at h;split at h
 ·rename_i k' k2 l' r;unfold D4 at h;split at h
  ·rename_i e;obtain⟨rfl,rfl⟩:=e;exact⟨_,_,rfl,h⟩
  ·cases h
 ·cases h
theorem J8 {kd:t.T->List SV->Option α}{l:List SV}{c:α}(h:pD t kd l=some c):∃ x r,l=.agg (cellsOf t x)::r/\kd x r=some c:=by
 unfold pD at h;split at h
 ·rename_i l' r;cases he:lG t l' with
  |none=>rw[he]at h;cases h
  |some x=>rw[he]at h;exact⟨x,r,by rw[jK he],h⟩
 ·cases h
end
section
variable {F:Nat->Prop}{own:Own}{w:World}
theorem tG {p:Pk}{s:SV}{v:Value}(h:Rel F own w s v):Rel F own w (qs p s) v:=by
 unfold qs;split
 ·cases h with
  |agg h0 h1=>
   refine .agg (by rw[pr];exact h0) fun j s hj=>?_;obtain⟨s0,e1,e2| ⟨k,e2⟩⟩:=lL _ _ _ _ hj
   ·subst e2;exact h1 j _ e1
   ·subst e2;exact iN (h1 j _ e1)
 ·exact iN h
 ·exact iN h
 ·exact h
theorem tH:∀ (ps:List Pk) (l:List SV),(dJ ps l).length=l.length
 | [],l=>by simp[dJ]
 |k::ks,[] =>by simp[dJ]
 |k::ks,s::r=>by simp[dJ,tH ks r]
theorem tI:∀ (ps:List Pk) (l:List SV) (j:Nat) (s:SV),(dJ ps l)[j]? =some s->∃ s0,l[j]? =some s0/\(s=s0\/∃ p,s=qs p s0)
 | [],l,j,s,h=>⟨s,by simpa[dJ]using h,.inl rfl⟩
 |k::ks,[],j,s,h=>by simp[dJ]at h
 |k::ks,x::r,0,s,h=>by simp[dJ]at h;exact⟨x,rfl,.inr ⟨k,h.symm⟩⟩
 |k::ks,x::r,j+1,s,h=>by simp[dJ]at h;simpa using tI ks r j s h
theorem FnOk.norm {f:FuncId}{C:List SV->Option Con}(ps:List Pk)(h:FnOk P f C):FnOk P f (fun l=>C (dJ ps l)):=
 ⟨fun l c hc=>h.enter _ c hc,fun l c hc hpre F w vs hF hvs=>h.calls _ c hc hpre F w vs hF ⟨by rw[tH];exact hvs.1,fun j s hj=>by
  obtain⟨s0,e1,e2| ⟨p,e2⟩⟩:=tI _ _ _ _ hj
  ·subst e2;exact hvs.2 j _ e1
  ·subst e2;exact tG (hvs.2 j _ e1)⟩⟩
end
attribute [go_sem] cH iu iJ
attribute [go_sem] lG
def noH {α:Type 1}:List Ob->Option α->Option α
 | [],x=>x
 |_,_=>none
@[go_sem] theorem P5 {α:Type 1}{x:Option α}:noH [] x=x:=(rfl)
theorem Gz {α:Type 1}{h:List Ob}{x:Option α}{c:α}(hh:noH h x=some c):h=[]/\x=some c:=by
 cases h with
 |nil=>exact⟨rfl,hh⟩
 |cons=>cases hh
theorem bB {n:Int}(h1: -9223372036854775808<=n)(h2:n<9223372036854775808):i64.wrap n=n:=by
 simp[IntKind.wrap,IntKind.bits,IntKind.signed];omega
end Go.Sx
end
section
namespace Go.Sx
open Go.RowKit
open IntKind (i64)
def aq {ρ σ:Type}(step:Nat->σ->ρ⊕σ):Nat->Nat->σ->ρ⊕σ
 |0,_,s=>.inr s
 |n+1,i,s=>match step i s with
  | .inl r=>.inl r
  | .inr s'=>aq step n (i+1) s'
def fg {ρ σ τ:Type}(step:τ->σ->ρ⊕σ):List τ->σ->ρ⊕σ
 | [],s=>.inr s
 |x::l,s=>match step x s with
  | .inl r=>.inl r
  | .inr s'=>fg step l s'
theorem vt {ρ σ τ:Type}(f:τ->σ->ρ⊕σ)(d:τ):∀ (l pre:List τ) (s:σ),aq (fun i s=>f ((pre++l).getD i d) s) l.length pre.length s=fg f l s
 | [],_,_=>rfl
 |x::l,pre,s=>by
  simp only[List.length_cons,aq,fg];have e:(pre++x::l).getD pre.length d=x:=by simp
  rw[e];cases f x s with
  |inl r=>rfl
  |inr s'=>
   have:=vt f d l (pre++[x]) s';simpa using this
theorem wO {ρ σ τ:Type}(f:τ->σ->ρ⊕σ)(d:τ)(l:List τ)(s:σ):aq (fun i s=>f (l.getD i d) s) l.length 0 s=fg f l s:=vt f d l [] s
def LC {ρ σ:Type}(pre:Prop)(run:ρ⊕σ)(exE:ρ->Ex)(outE:ρ->St)(outN:σ->St):LCon:=
 {α:=ρ⊕σ,pre:=pre,post:=fun r=>r=run,ex:=fun r=>match r with| .inl x=>exE x| .inr _=>.normal,out:=fun r=>match r with| .inl x=>outE x| .inr s=>outN s}
@[go_sem] theorem ym {ρ σ:Type}{pre:Prop}{run:ρ⊕σ}{exE:ρ->Ex}{outE:ρ->St}{outN:σ->St}{Q:Ex->St->Prop}:
  kO Q (some (LC pre run exE outE outN))=(pre/\(∀ x,run=.inl x->Q (exE x) (outE x))/\∀ s,run=.inr s->Q .normal (outN s)):=by
 apply propext;constructor
 ·rintro⟨h1,h2⟩;exact⟨h1,fun x hx=>h2 (.inl x) hx.symm,fun s hs=>h2 (.inr s) hs.symm⟩
 ·rintro⟨h1,h2,h3⟩;refine⟨h1,fun r hr=>?_⟩;cases r with
  |inl x=>exact h2 x hr.symm
  |inr s=>exact h3 s hr.symm
section
variable {P:Program}{ρ σ:Type}
def yn (step:Nat->σ->ρ⊕σ)(n:Nat)(exE:ρ->Ex)(outE:ρ->St)(outN:σ->St)(n0 k:Nat)(s:σ)(e:Ex)(st:St):Prop:=
 (∃ js,n<=k/\e=.normal/\n0<=(outN s).h.length/\Sub js n0 st (outN s))\/∃ x js,k<n/\step k s=.inl x/\exE x=e/\n0<=(outE x).h.length/\Sub js n0 st (outE x)
def wP (step:Nat->σ->ρ⊕σ)(n:Nat)(exE:ρ->Ex)(outE:ρ->St)(outN:σ->St)(D:Nat->σ->St)(J:Nat->σ->Prop)(n0 id k:Nat)(s:σ):Ex->St->Prop
 | .normal,st=>k<n/\∃ s' js,step k s=.inr s'/\J (k+1) s'/\n0<=(D (k+1) s').h.length/\Sub js n0 st (D (k+1) s')
 | .exit j,st=>bif Nat.beq j id then yn step n exE outE outN n0 k s .normal st else yn step n exE outE outN n0 k s (.exit j) st
 | .ret,st=>yn step n exE outE outN n0 k s .ret st
 | .pan x,st=>yn step n exE outE outN n0 k s (.pan x) st
variable {step:Nat->σ->ρ⊕σ}{n n0 id k j:Nat}{exE:ρ->Ex}{outE:ρ->St}{outN:σ->St}{D:Nat->σ->St}{J:Nat->σ->Prop}{s:σ}{st:St}{x:Value}
@[go_sem] theorem FH:wP step n exE outE outN D J n0 id k s .normal st=(k<n/\∃ s' js,step k s=.inr s'/\J (k+1) s'/\n0<=(D (k+1) s').h.length/\Sub js n0 st (D (k+1) s')):=(rfl)
@[go_sem] theorem Iz:wP step n exE outE outN D J n0 id k s (.exit j) st=bif Nat.beq j id then yn step n exE outE outN n0 k s .normal st else yn step n exE outE outN n0 k s (.exit j) st:=(rfl)
@[go_sem] theorem J9:wP step n exE outE outN D J n0 id k s .ret st=yn step n exE outE outN n0 k s .ret st:=(rfl)
@[go_sem] theorem J_:wP step n exE outE outN D J n0 id k s (.pan x) st=yn step n exE outE outN n0 k s (.pan x) st:=(rfl)
end
def itY (items:List (List SV))(r:Nat->Res):List SV->Res->Option YCon:=fun args x=>
 some { α:=Bool,pre:=x=r x.n/\1<=x.n/\items[x.n - 1]? =some args,post:=fun _=>True,res:=fun b=>(b,r (if b then x.n+1 else 0))}
def z6 (P:Program)(f:FuncId)(mk:SV->List SV)(hs:List Ob)(items:List (List SV)):Prop:=
 (∀ (args:Array Value) (w:World),(callFunc f args).run P w=.ok (.enter f args) w)/\
 ∀ r:Nat->Res,(∀ k,(r k).n=k)->YOk P (itY items r)->∀ (F:Nat->Prop) (own:Own) (w:World) (vs:Array Value),Hp F own w (.ab (r 1)::hs)->RelL F own w (mk (.os 0)) vs->
  Calls P f vs w (fun e w'=>∃ u own' j h',e=.returned u/\(j=0\/j=items.length+1)/\Hp F own' w' (.ab (r j)::h')/\Fr { w:=w,own:=own} own' w')
theorem IA {P:Program}{f:FuncId}{mk:SV->List SV}{hs:List Ob}{items:List (List SV)}
  (h:∀ r:Nat->Res,(∀ k,(r k).n=k)->YOk P (itY items r)->∃ C,FnOkO P f C/\∃ c,C (mk (.os 0)) (.ab (r 1)::hs)=some c/\c.pre/\∀ x,c.post x->∃ s j h',c.res x=.ret s (.ab (r j)::h')/\(j=0\/j=items.length+1))
  (he:∀ (args:Array Value) (w:World),(callFunc f args).run P w=.ok (.enter f args) w):z6 P f mk hs items:=by
 refine⟨he,fun r hr hy F own w vs hp hvs=>?_⟩;obtain⟨C,hC,c,h1,h2,h3⟩:=h r hr hy;refine(hC.calls _ _ c h1 h2 F own w vs hp hvs).mono ?_;rintro e w' ⟨x,own',q1,q2⟩;obtain⟨s,j,h',k1,k2⟩:=h3 x q1;rw[k1]at q2;obtain⟨⟨u,rfl,_⟩,q3,q4,_⟩:=q2;exact⟨u,own',j,h',rfl,k2,q3,q4⟩
def yo (pre:Prop)(r:Nat->Res)(m:Nat):YCon:= { α:=Bool,pre:=pre,post:=fun _=>True,res:=fun b=>(b,r (if b then m else 0))}
theorem D6 {items:List (List SV)}{r:Nat->Res}(hr:∀ k,(r k).n=k)(k:Nat)(args:List SV):itY items r args (r (k+1))=some (yo (items[k]? =some args) r (k+2)):=by
 unfold itY yo;simp[hr]
section
variable {id m:Nat}{t:List (Nat×SV)}{h:List Ob}{K:St->Prop}{pre:Prop}{r:Nat->Res}{ops:List Oper}{g:Nat×Bool}
theorem two {p:Bool->Prop}:(∀ b,p b)=(p true/\p false):=propext ⟨fun h=>⟨h true,h false⟩,fun h b=>by
 cases b
 ·exact h.2
 ·exact h.1⟩
@[go_sem] theorem P6 {d:Nat}:zh id (some d) ⟨t,h⟩ K (some (yo pre r m))=(pre/\K ⟨(d,.b true)::t,bf h id (.ab (r m))⟩/\K ⟨(d,.b false)::t,bf h id (.ab (r 0))⟩):=by
 show(pre/\∀ b:Bool,True->K ⟨(d,.b b)::t,bf h id (.ab (r (if b then m else 0)))⟩)=_;simp only[true_imp_iff];rw[two];rfl
@[go_sem] theorem P7 {d:Nat}:xF id ops g (some d) ⟨t,h⟩ K (some (yo pre r m))=((co ops t ops.length g->pre/\K ⟨(d,.gd g.1 g.2 (.b true))::t,bf h id (.ab (r m))⟩/\K ⟨(d,.gd g.1 g.2 (.b false))::t,bf h id (.ab (r 0))⟩)/\(dD ops t ops.length g->K ⟨(d,.gd g.1 g.2 .any)::t,h⟩)):=by
 show((co ops t ops.length g->pre/\∀ b:Bool,True->K ⟨(d,.gd g.1 g.2 (.b b))::t,bf h id (.ab (r (if b then m else 0)))⟩)/\(dD ops t ops.length g->K ⟨(d,.gd g.1 g.2 .any)::t,h⟩))=_;simp only[true_imp_iff];rw[two];rfl
end
def GA (own:Own)(n:Nat):List Nat:=(List.range n).flatMap fun id=>match own id with|some hd=>hd.bs|none=>[]
theorem tJ {own:Own}{n:Nat}(hd:∀ id hd,own id=some hd->id<n)(b:Nat):b∈GA own n↔∃ id hd,own id=some hd/\b∈hd.bs:=by
 unfold GA;rw[List.mem_flatMap];constructor
 ·rintro⟨id,_,h⟩;cases ho:own id with
  |none=>rw[ho]at h;cases h
  |some hd=>rw[ho]at h;exact⟨id,hd,ho,h⟩
 ·rintro⟨id,hdd,ho,h⟩;exact⟨id,List.mem_range.2 (hd id hdd ho),by rw[ho];exact h⟩
section
variable {P:Program}{w0:Bs}{ts:Tis}{G:Cons}{L:mL}{N:Nat}
def Fw (F:Nat->Prop)(l:Nat)(w:World)(b:Nat):Prop:=(F b/\b<w.heap.size)\/b=l
structure LRec where
 l:Nat
 fn:FuncId
 tmps:Array Value
 ps:Array Tmp
 assign:Code
 body:Code
 D:Nat
def LRec.obj (x:LRec)(s:LoopState)(p:Option Code):Obj:=.loop { state:=s,pending:=p,fn:=x.fn,tmps:=x.tmps,params:=x.ps,assign:=x.assign,body:=x.body,defers:=x.D}
structure Pack (x:LRec)(T:List (Nat×SV))(bX:Own)(n0:Nat)(H:List Ob)(o:Obj)(own':Own)(F:Nat->Prop)(bs:List Nat)(w:World):Prop where
 hp:Hp (Fw F x.l w) own' w H
 slots:∀ t,Rel (Fw F x.l w) own' w (lk t T) (x.tmps.getD t undef)
 bs:∀ b,b∈bs↔b=x.l\/∃ id hd,own' id=some hd/\b∈hd.bs
 ids:∀ id hd,bX id=some hd->∃ hd',own' id=some hd'/\hd.like hd'
 nl:¬F x.l
 rcd:w.heap[x.l]? =some o
 le:n0<=H.length
theorem Pack.loc {x:LRec}{T:List (Nat×SV)}{bX:Own}{n0:Nat}{H:List Ob}{o:Obj}{own':Own}{F F':Nat->Prop}{bs:List Nat}{w w':World}(h:Pack x T bX n0 H o own' F bs w)(hsz:w.heap.size<=w'.heap.size)
  (hb:∀ b,b<w.heap.size->¬F b->w'.heap[b]? =w.heap[b]?) (hF:∀ b,b<w.heap.size->F' b->F b):Pack x T bX n0 H o own' F' bs w':=by
 have hl:=iK h.rcd;have hc:Carries (Fw F x.l w) own' w (Fw F' x.l w') own' w':=⟨fun _ hd e=>⟨hd,e,.refl _⟩,fun b hbl hn=>⟨fun ho=>hn (ho.imp (fun q=>q.imp (fun⟨q1,_⟩ =>⟨hF b hbl q1,hbl⟩) (fun e=>e)) (fun e=>e)),hb b hbl fun hf=>hn (.inl (.inl ⟨hf,hbl⟩))⟩⟩;have hob:∀ id hd b,own' id=some hd->b∈hd.bs->w'.heap[b]? =w.heap[b]?:=fun id hd b e hm=>hb b (h.hp.lt id hd b e hm) fun hf=>h.hp.apart id hd b e hm (.inl ⟨hf,h.hp.lt id hd b e hm⟩);refine⟨⟨h.hp.dom,fun b hbf=>?_,fun id hd b e hm hbf=>?_,h.hp.inj,fun id hd b e hm=>Nat.lt_of_lt_of_le (h.hp.lt id hd b e hm) hsz,fun id hdd=>?_⟩,fun t=>(h.slots t).carry hc,h.bs,h.ids,fun hf=>h.nl (hF _ hl hf),by rw[hb _ hl h.nl];exact h.rcd,h.le⟩
 ·rcases hbf with⟨_,q⟩ |rfl
  ·exact q
  ·omega
 ·have hlt:=h.hp.lt id hd b e hm;rcases hbf with⟨q,_⟩ |q
  ·exact h.hp.apart id hd b e hm (.inl ⟨hF b hlt q,hlt⟩)
  ·exact h.hp.apart id hd b e hm (.inr q)
 ·obtain⟨hd,e1,e2⟩:=h.hp.obs id hdd;exact⟨hd,e1,e2.carry hc hsz fun b hm=>hob id hd b e1 hm⟩
def psT:List Nat->List SV->List (Nat×SV)
 |p::ps,s::r=>(p,s)::psT ps r
 |_,_=>[]
def itQ {σ:Type}(T:List (Nat×SV))(Hx:σ->List Ob)(I:Nat->σ->Prop)(S:Ex->σ->Prop)(n0 k:Nat):Ex->St->Prop
 | .normal,st=>∃ y js,I (k+1) y/\n0<=(Hx y).length/\Sub js n0 ⟨T,st.h⟩ ⟨T,Hx y⟩
 | .exit j,st=>∃ y js,S (.exit j) y/\n0<=(Hx y).length/\Sub js n0 ⟨T,st.h⟩ ⟨T,Hx y⟩
 | .ret,st=>∃ y js,S .ret y/\n0<=(Hx y).length/\Sub js n0 ⟨T,st.h⟩ ⟨T,Hx y⟩
 | .pan _,_=>False
def z7:Ex->Option Code
 | .exit j=>some (.exit j)
 | .ret=>some .ret
 |_=>none
def itR {σ:Type}(x:LRec)(T:List (Nat×SV))(bX:Own)(n0:Nat)(Hx:σ->List Ob)(I:Nat->σ->Prop)(S:Ex->σ->Prop):Nat->Res
 |0=>{ yv:=.func (.yield x.l) #[] #[],n:=0,R:=fun F bs w=>∃ e y own',S e y/\(z7 e).isSome=true/\Pack x T bX n0 (Hx y) (x.obj .done (z7 e)) own' F bs w,loc:=fun F F' bs w w' ⟨e,y,own',h0,h1,h2⟩ hsz hb hF=>⟨e,y,own',h0,h1,h2.loc hsz hb hF⟩}
 |k+1=>{ yv:=.func (.yield x.l) #[] #[],n:=k+1,R:=fun F bs w=>∃ y own',I k y/\Pack x T bX n0 (Hx y) (x.obj .ready none) own' F bs w,loc:=fun F F' bs w w' ⟨y,own',h0,h2⟩ hsz hb hF=>⟨y,own',h0,h2.loc hsz hb hF⟩}
theorem IB {σ:Type}{x:LRec}{T:List (Nat×SV)}{bX:Own}{n0:Nat}{Hx:σ->List Ob}{I:Nat->σ->Prop}{S:Ex->σ->Prop}:∀ k,(itR x T bX n0 Hx I S k).n=k/\(itR x T bX n0 Hx I S k).yv=.func (.yield x.l) #[] #[]
 |0=>⟨rfl,rfl⟩
 |_+1=>⟨rfl,rfl⟩
theorem D7:∀ (ps:List Nat) (args:List SV) (T:List (Nat×SV)) (tmps:Array Value) (vs:List Value) (t:Nat) {F:Nat->Prop} {own:Own} {w:World},ps.Nodup->(∀ p∈ps,p<tmps.size)->args.length=ps.length->vs.length=ps.length->
  (∀ (j:Nat) (s:SV) (v:Value),args[j]? =some s->vs[j]? =some v->Rel F own w s v)->Rel F own w (lk t T) (tmps.getD t undef)->Rel F own w (lk t (psT ps args++T)) (((ps.zip vs).foldl (fun tmps (t,a) =>tmps.setIfInBounds t a) tmps).getD t undef)
 | [],args,T,tmps,vs,t,_,_,_,_,_,ha,_,_,hT=>by
  cases args with
  |nil=>exact hT
  |cons=>simp at ha
 |p::ps,[],T,tmps,vs,t,_,_,_,_,_,ha,_,_,_=>by simp at ha
 |p::ps,s::args,T,tmps,[],t,_,_,_,_,_,_,hv,_,_=>by simp at hv
 |p::ps,s::args,T,tmps,v::vs,t,F,own,w,hn,hp,ha,hv,hr,hT=>by
  rw[List.nodup_cons]at hn;have hother:∀ (l:List (Nat×Value)) (tm:Array Value),(∀ x∈l,x.1≠p)->(l.foldl (fun tmps (t,a) =>tmps.setIfInBounds t a) tm).getD p undef=tm.getD p undef:=by
   intro l;induction l with
   |nil=>intro tm _;rfl
   |cons y r ih=>
    intro tm hy;simp only[List.foldl_cons];rw[ih _ fun x hx=>hy x (by simp[hx])];simp only[Array.getD_eq_getD_getElem?,Array.getElem?_setIfInBounds];rw[if_neg (hy y (by simp))]
  have hlkp:∀ (ps2:List Nat) (as2:List SV),p ∉ ps2->lk p (psT ps2 as2++T)=lk p T:=by
   intro ps2;induction ps2 with
   |nil=>intro as2 _;cases as2 <;>rfl
   |cons q r ih=>
    intro as2 hq;cases as2 with
    |nil=>rfl
    |cons a as2=>
     simp only[List.mem_cons,not_or]at hq;simp only[psT,List.cons_append];rw[jo,if_neg (fun e=>hq.1 e.symm)];exact ih as2 hq.2
  simp only[List.zip_cons_cons,List.foldl_cons,psT,List.cons_append];rw[jo];by_cases ht:p=t
  ·subst ht;rw[if_pos rfl,hother _ _ fun x hx=>by
    have:=List.of_mem_zip hx;exact fun e=>hn.1 (e▸this.1)]
   simp only[Array.getD_eq_getD_getElem?,Array.getElem?_setIfInBounds];simp only[if_true];rw[if_pos (hp p (by simp))];exact hr 0 s v rfl rfl
  ·rw[if_neg ht];refine D7 ps args T (tmps.setIfInBounds p v) vs t hn.2 (fun q hq=>by simpa using hp q (by simp[hq])) (by simpa using ha) (by simpa using hv) (fun j s v h1 h2=>hr (j+1) s v (by simpa using h1) (by simpa using h2)) ?_;simp only[Array.getD_eq_getD_getElem?,Array.getElem?_setIfInBounds];rw[if_neg ht];simpa[Array.getD_eq_getD_getElem?]using hT
theorem Co (l:List (Nat×Value)):∀ (tm:Array Value),(l.foldl (fun tmps (t,a) =>tmps.setIfInBounds t a) tm).size=tm.size:=by
 induction l with
 |nil=>intro tm;rfl
 |cons y r ih=>intro tm;simp only[List.foldl_cons];rw[ih];simp
theorem Ka (hm:P.follows .mixedOrders=true)(hts:ts.ok P)(hG:ConsOk P G){σ:Type}{x:LRec}{T:List (Nat×SV)}{bX:Own}{n0:Nat}{Hx:σ->List Ob}{I:Nat->σ->Prop}{S:Ex->σ->Prop}{items:List (List SV)}
  (hsz:x.tmps.size=N) (hn0:∀ id hd,bX id=some hd->id<n0) (hpn:x.ps.toList.Nodup) (hpN:∀ p∈x.ps.toList,p<N) (hca:ca N x.assign=true) (hcb:ca N x.body=true)
  (hround:∀ k y args,items[k]? =some args->I k y->args.length=x.ps.size/\∃ L Qx,(∀ l,ap P (some l) N L x.assign)/\(∀ l,ap P (some l) N L x.body)/\(∀ e st,Qx e st->itQ T Hx I S n0 k e st)/\exec ts G L x.assign ⟨psT x.ps.toList args++T,Hx y⟩ (fun e st1=>e=.normal/\exec ts G L x.body st1 Qx)):
  YOk P (itY items (itR x T bX n0 Hx I S)):=by
 intro args rr c hc hpre F bs w vs hR hF hbs hvs;simp only[itY,Option.some.injEq]at hc;subst hc;obtain⟨h1,h2,h3⟩:=hpre;generalize hk:rr.n=kk at h1 h2 h3;obtain⟨k,rfl⟩:∃ k,kk=k+1:=⟨kk - 1,by omega⟩;simp only[Nat.add_sub_cancel]at h3;subst h1;obtain⟨y,own',hI,pk⟩:=hR;obtain⟨hal,L,Qx,hla,hlb,hQx,hex⟩:=hround k y args h3 hI;have hvl:vs.size=x.ps.size:=by rw[hvs.1];exact hal
 have hl:=iK pk.rcd;right;have hpfs:∀ b,Fw F x.l w b->b<w.heap.size:=fun b hb=>pk.hp.foreign b hb;refine⟨x.l,x.fn,(x.ps.zip vs).foldl (fun tmps (t,a) =>tmps.setIfInBounds t a) x.tmps,x.assign,x.body,?_,roundIn_of_wpIn trivial ?_⟩
 ·show(Cb (.func (.yield x.l) #[] #[]) vs).run P w=_;have hy:=run_yield (P:=P) (w:=w) (l:=x.l) (args:=vs) pk.rcd hvl;unfold Cb;simp[Deferred.ofValue,invoke,hy,go_sem]
 ·
  generalize htm:(x.ps.zip vs).foldl (fun tmps (t,a) =>tmps.setIfInBounds t a) x.tmps=tmps';have hFw:∀ b,F b->Fw F x.l w b:=fun b hb=>.inl ⟨hb,hF b hb⟩;have hargs:RelL (Fw F x.l w) own' w args vs:=⟨hvs.1,fun j s hj=>(hvs.2 j s hj).over (jp (hvs.2 j s hj)) fun b hb ho=>hb (by
   left;rcases ho with(⟨q,_⟩ |q) | ⟨id,hd,e,hm⟩
   ·exact .inl q
   ·exact .inr ((pk.bs b).2 (.inl q))
   ·exact .inr ((pk.bs b).2 (.inr ⟨id,hd,e,hm⟩)))⟩
  have hstart:StRel (Fw F x.l w) { w:=w,own:=own'} N own' ⟨psT x.ps.toList args++T,Hx y⟩ { tmps:=tmps',defers:=[]} w:=by
   refine⟨?_,Dfr.nil,pk.hp,Fr.refl { w:=w,own:=own'},fun t=>?_⟩
   ·rw[<-htm,<-Array.foldl_toList,Co];exact hsz
   ·rw[<-htm,<-Array.foldl_toList,Array.toList_zip];refine D7 x.ps.toList args T x.tmps vs.toList t hpn (fun p hp=>by rw[hsz];exact hpN p hp) (by simpa using hal) (by simpa using hvl) (fun j s v h1 h2=>?_) (pk.slots t);have:=hargs.2 j s h1;have e:vs.getD j undef=v:=by rw[Array.getElem?_toList]at h2;simp[Array.getD_eq_getD_getElem?,h2]
    rwa[e]at this
  refine wpIn_mono (kp (ro:=some x.l) (nd:=0) hm hts hG x.assign hca (hla x.l) _ _ _ hex own' _ w hstart) ?_;intro e a1 w1 hq;cases e with
  |normal=>
   obtain⟨F1,own1,st1,hF1,hst1,_,hex1⟩:=hq;have hl1:F1 x.l:=hF1 _ (.inr rfl);have hno1:∀ id hd,own' id=some hd->x.l ∉ hd.bs:=fun id hd e hm=>pk.hp.apart id hd _ e hm (.inr rfl);have hrec1:w1.heap[x.l]? =some (x.obj .ready none):=by
    rw[hst1.fr.block x.l ⟨hl,fun⟨id,hd,e,hm⟩ =>hno1 id hd e hm⟩];exact pk.rcd
   refine⟨w1.putObj x.l (x.obj .busy none),run_beginRound hrec1 rfl,?_⟩;have g1:Goes F1 own1 w1 own1 (w1.putObj x.l (x.obj .busy none)):=⟨fun _ hd e=>⟨hd,e,.refl _⟩,fun b _ hn=>⟨hn,World.putObj_heap_other fun e=>hn (.inl (e▸hl1))⟩,by simp⟩;have hst2:StRel F1 { w:=w.putObj x.l (x.obj .busy none),own:=own'} N own1 st1 a1 (w1.putObj x.l (x.obj .busy none)):=by
    refine⟨hst1.size,?_,hst1.hp.goes g1 fun id hd b e hm=>World.putObj_heap_other fun e'=>hst1.hp.apart id hd b e hm (e'▸hl1),⟨hst1.fr.ids,fun id hd b e hm ho=>hst1.fr.base id hd b e hm ⟨by have:=ho.1;simpa using this,ho.2⟩,hst1.fr.os,hst1.fr.tape,hst1.fr.output,by simpa using hst1.fr.size,fun b hb=>?_⟩,fun t=>(hst1.slots t).mono g1⟩
    ·obtain⟨ms,Ds,q0,q1,q2,q3⟩:=hst1.defers;refine⟨ms,Ds,q0,q1,q2,fun D hD=>⟨by simpa using (q3 D hD).1,(q3 D hD).2.1,?_⟩⟩;rw[World.putObj_heap_other fun e=>?_]
     ·exact(q3 D hD).2.2
     ·have:=(q3 D hD).2.2;rw[e,hrec1]at this;simp[LRec.obj]at this
    ·by_cases e:b=x.l
     ·subst e;rw[World.putObj_heap_same hl,World.putObj_heap_same (Nat.lt_of_lt_of_le hl hst1.fr.size)]
     ·rw[World.putObj_heap_other e,World.putObj_heap_other e];exact hst1.fr.block b ⟨by have:=hb.1;simpa using this,hb.2⟩
   refine wpIn_mono (kp (ro:=some x.l) (nd:=0) hm hts hG x.body hcb (hlb x.l) _ _ _ hex1 own1 _ _ hst2) ?_;intro e a2 w2 hq
   replace hq:=lU hQx _ _ _ hq
   have key:∀ (F2:Nat->Prop) (own2:Own) (st2:St) (y2:σ) (js:List Nat) (b:Bool) (jump:Option Code),(∀ c,F1 c->F2 c)->StRel F2 { w:=w.putObj x.l (x.obj .busy none),own:=own'} N own2 st2 a2 w2->n0<=(Hx y2).length->Sub js n0 ⟨T,st2.h⟩ ⟨T,Hx y2⟩->b=jump.isNone->
     (∀ own3 bs' w3,Pack x T bX n0 (Hx y2) (x.obj (if jump.isNone then .ready else .done) jump) own3 F bs' w3->(itR x T bX n0 Hx I S (if b then k+1+1 else 0)).R F bs' w3)->
     ∃ v w3,(Instr.endRound x.l jump).run P w2=.ok v w3/\∃ a bs',True/\(Ending.returned v)=.returned (.bool ((a,itR x T bX n0 Hx I S (if a then k+1+1 else 0)):Bool×Res).1)/\(itR x T bX n0 Hx I S (if a then k+1+1 else 0)).R F bs' w3/\(itR x T bX n0 Hx I S (if a then k+1+1 else 0)).yv=.func (.yield x.l) #[] #[]/\YFr bs bs' w w3:=by
    intro F2 own2 st2 y2 js b jump hF2 hst hle hsub hb hR3;subst hb;have hl2:F2 x.l:=hF2 _ hl1;have hrec2:w2.heap[x.l]? =some (x.obj .busy none):=by
     rw[hst.fr.block x.l ⟨by simpa using hl,fun⟨id,hd,e,hm⟩ =>hno1 id hd e hm⟩];exact World.putObj_heap_same hl
    have hsz2:w.heap.size<=w2.heap.size:=by have:=hst.fr.size;simpa using this
    have hl2s:=Nat.lt_of_lt_of_le hl hsz2;obtain⟨q1,q2,q3,q4⟩:=zT hsub hst.hp hle;let own3:=ev js (Hx y2) own2
    let w3:=w2.putObj x.l (x.obj (if jump.isNone then .ready else .done) jump)
    have hF2w:∀ c,Fw F x.l w3 c->F2 c:=fun c hc=>by
     rcases hc with⟨hc,_⟩ |rfl
     ·exact hF2 c (hF1 c (hFw c hc))
     ·exact hl2
    have hoth:∀ c,c≠x.l->w3.heap[c]? =w2.heap[c]?:=fun c hc=>World.putObj_heap_other hc;have hcar:Carries F2 own3 w2 (Fw F x.l w3) own3 w3:=⟨fun _ hd e=>⟨hd,e,.refl _⟩,fun c hcl hn=>⟨fun ho=>hn (ho.imp (hF2w c) (fun e=>e)),hoth c fun e=>hn (.inl (e▸hl2))⟩⟩;have hblk:∀ c,c<w.heap.size->c≠x.l->(¬ ∃ id hd,own' id=some hd/\c∈hd.bs)->w2.heap[c]? =w.heap[c]?:=fun c h1 h2 h3=>by
     rw[hst.fr.block c ⟨by simpa using h1,h3⟩];exact World.putObj_heap_other h2
    have hown2:∀ id hd c,own2 id=some hd->c∈hd.bs->(∃ id hd,own' id=some hd/\c∈hd.bs)\/w.heap.size<=c:=fun id hd c e hm=>by
     have:=hst.fr.base id hd c e hm;by_cases hc:c<w.heap.size
     ·exact .inl (Classical.byContradiction fun hn=>this ⟨by simpa using hc,hn⟩)
     ·exact .inr (by omega)
    have gall:Goes (Fw F x.l w) own' w own2 w2:=⟨hst.fr.ids,fun c hcl hn=>by
     have h2:c≠x.l:=fun e=>hn (.inl (.inr e));have h3:¬ ∃ id hd,own' id=some hd/\c∈hd.bs:=fun h=>hn (.inr h);refine⟨?_,hblk c hcl h2 h3⟩;rintro (hf| ⟨id,hd,e,hm⟩)
     ·exact hn (.inl hf)
     ·rcases hown2 id hd c e hm with h|h
      ·exact h3 h
      ·omega,hsz2⟩
    have hcar2:Carries (Fw F x.l w) own3 w2 (Fw F x.l w3) own3 w3:=⟨fun _ hd e=>⟨hd,e,.refl _⟩,fun c hcl hn=>⟨fun ho=>hn (ho.imp (fun hc=>by
     rcases hc with⟨hc,_⟩ |rfl
     ·exact hFw c hc
     ·exact .inr rfl) (fun e=>e)),hoth c fun e=>hn (.inl (.inr e))⟩⟩
    have hpk:Pack x T bX n0 (Hx y2) (x.obj (if jump.isNone then .ready else .done) jump) own3 F (x.l::GA own3 (Hx y2).length) w3:=by
     refine⟨⟨q1.dom,fun c hc=>?_,fun id hd c e hm hc=>q1.apart id hd c e hm (hF2w c hc),q1.inj,fun id hd c e hm=>by have:=q1.lt id hd c e hm;simpa[w3]using this,fun id hdd=>?_⟩,fun t=>?_,fun c=>?_,fun id hd e=>?_,pk.nl,World.putObj_heap_same hl2s,hle⟩
     ·rcases hc with⟨_,hc⟩ |rfl
      ·exact hc
      ·simpa[w3]using hl2s
     ·obtain⟨hd,e1,e2⟩:=q1.obs id hdd;exact⟨hd,e1,e2.carry hcar (by simp[w3]) fun c hm=>hoth c fun e=>q1.apart id hd c e1 hm (e▸hl2)⟩
     ·rcases sd t _ hsub.2.1 with e| ⟨e1,e2⟩
      ·rw[e];exact .any _
      ·have h1:=(pk.slots t).mono gall;have h1':Rel (Fw F x.l w) own2 w2 (ren (rQ js) 5 (lk t T)) (x.tmps.getD t undef):=e1▸h1;exact(q3 (Fw F x.l w) 5 _ _ e2 h1').carry hcar2
     ·rw[List.mem_cons,tJ q1.dom]
     ·obtain⟨hd1,e1,l1⟩:=pk.ids id hd e;obtain⟨hd2,e2,l2⟩:=hst.fr.ids id hd1 e1;obtain⟨hd3,e3,l3⟩:=q4 id hd2 (hn0 id hd e) e2;exact⟨hd3,e3,(l1.trans l2).trans l3⟩
    refine⟨_,w3,run_endRound jump hrec2,jump.isNone,_,trivial,rfl,hR3 _ _ _ hpk,(IB _).2,hst.fr.os,hst.fr.tape,hst.fr.output,by simpa[w3]using hsz2,fun c hc hn=>?_,fun c hc=>?_⟩
    ·have h2:c≠x.l:=fun e=>hn ((pk.bs c).2 (.inl e));rw[hoth c h2];exact hblk c hc h2 fun h=>hn ((pk.bs c).2 (.inr h))
    ·rcases List.mem_cons.1 hc with rfl|hc
     ·exact⟨by simpa[w3]using hl2s,.inl ((pk.bs _).2 (.inl rfl))⟩
     ·obtain⟨id,hd,e,hm⟩:=(tJ q1.dom c).1 hc;refine⟨by have:=q1.lt id hd c e hm;simpa[w3]using this,?_⟩;obtain⟨_,j,hd0,_,e2,_,e4⟩:=eQ e;obtain⟨_,rfl⟩:=e4 c hm;rcases hown2 j hd c e2 hm with h|h
      ·exact .inl ((pk.bs c).2 (.inr h))
      ·exact .inr h
   cases e with
   |normal=>
    obtain⟨F2,own2,st2,h0,hst,y2,js,hI2,hle,hsub⟩:=hq;exact key F2 own2 st2 y2 js true none h0 hst hle hsub rfl fun own3 bs' w3 hp=>⟨y2,own3,hI2,hp⟩
   |ret=>
    obtain⟨F2,own2,st2,h0,hst,y2,js,hS2,hle,hsub⟩:=hq;exact key F2 own2 st2 y2 js false (some .ret) h0 hst hle hsub rfl fun own3 bs' w3 hp=>⟨.ret,y2,own3,hS2,rfl,hp⟩
   |exit j=>
    obtain⟨F2,own2,st2,h0,hst,y2,js,hS2,hle,hsub⟩:=hq;exact key F2 own2 st2 y2 js false (some (.exit j)) h0 hst hle hsub rfl fun own3 bs' w3 hp=>⟨.exit j,y2,own3,hS2,rfl,hp⟩
   |panic ch=>obtain⟨x',F2,own2,st2,_,_,h,_⟩:=hq;exact h.elim
   |_=>exact hq.elim
  |exit j=>obtain⟨F1,own1,st1,_,_,h,_⟩:=hq;cases h
  |ret=>obtain⟨F1,own1,st1,_,_,h,_⟩:=hq;cases h
  |panic ch=>obtain⟨x',F1,own1,st1,_,_,⟨h,_⟩,_⟩:=hq;cases h
  |_=>exact hq.elim
end
section
variable {P:Program}{w0:Bs}{ts:Tis}{G:Cons}{L:mL}{N:Nat}
def pL (ids:List Nat)(h:List Ob):List Ob:=aD h (ids.map fun id=>(id,Ob.dead))
theorem vz (h:List Ob)(id:Nat):∀ (ids:List Nat) (h:List Ob),ae (pL ids h) id=if id∈ids then .dead else ae h id
 | [],h=>by simp[pL,aD]
 |a::r,h=>by
  have ih:=vz h id r (bf h a .dead);have e:pL (a::r) h=pL r (bf h a .dead):=rfl;rw[e,ih];by_cases h1:id∈r
  ·simp[h1]
  ·rw[if_neg h1,b8];by_cases h2:a=id
   ·simp[h2]
   ·rw[if_neg h2,if_neg];simp[h1];exact fun e=>h2 e.symm
def z8 (ids:List Nat)(i:Nat):Option Nat:=(oe i ids).map (· +1)
def yp (ids:List Nat)(h:List Ob):List Ob:=ids.map fun i=>mr (z8 ids) (ae h i)
def jr (st:St)(caps:List SV):List Nat:=reach st.h 64 (caps.flatMap (dm 3)) []
def GB (lc:LCon)(n0:Nat)(e:Ex)(st:St):Prop:= ∃ r js,lc.post r/\lc.ex r=e/\n0<=(lc.out r).h.length/\Sub js n0 st (lc.out r)
theorem GC {F:Nat->Prop}{own:Own}{st:St}{a:Act}{w:World}(hr:StRel F w0 N own st a w)(x:Operand):Rel F own w (raw st.t x) (a.eval x):=by
 cases x with
 |tmp t=>exact hr.slots t
 |const v=>exact .v v
 |func f=>exact .fn rfl rfl (fun j s h=>by simp at h) (fun j s h=>by simp at h)
 |global g=>exact .any _
theorem yq (hm:P.follows .mixedOrders=true)(hts:ts.ok P)(hG:ConsOk P G){id:Nat}{g:Operand}{ps:Array Tmp}{assign body:Code}{C:St->Option LCon}
  (hpn:ps.toList.Nodup) (hpN:∀ p∈ps.toList,p<N) (hca:ca N assign=true) (hcb:ca N body=true)
  (h:∀ st lc,C st=some lc->lc.pre->∃ (f:FuncId) (caps:List SV) (items:List (List SV)) (σ:Type) (T:List (Nat×SV)) (Hx:σ->List Ob) (I:Nat->σ->Prop) (S:Ex->σ->Prop) (x0:σ) (js:List Nat),
   raw st.t g=.fn f [] caps/\I 0 x0/\st.h.length<=(Hx x0).length/\Sub js st.h.length ⟨st.t,pL (jr st caps) st.h⟩ ⟨T,Hx x0⟩/\
   z6 P f (fun y=>y::caps.map (ren (z8 (jr st caps)) 3)) (yp (jr st caps) st.h) items/\
   (∀ k y args,items[k]? =some args->I k y->args.length=ps.size/\∃ L Qx,(∀ l,ap P (some l) N L assign)/\(∀ l,ap P (some l) N L body)/\(∀ e st',Qx e st'->itQ T Hx I S st.h.length k e st')/\exec ts G L assign ⟨psT ps.toList args++T,Hx y⟩ (fun e st1=>e=.normal/\exec ts G L body st1 Qx))/\
   (∀ y,I items.length y->GB lc st.h.length .normal ⟨T,Hx y⟩)/\(∀ y,S .ret y->GB lc st.h.length .ret ⟨T,Hx y⟩)/\
   ∀ j y,S (.exit j) y->GB lc st.h.length (if j=id then .normal else .exit j) ⟨T,Hx y⟩):gT P none N id (.rangeFunc g ps assign body) C:=by
 intro nd F w0 st lc hC hpre own a w hr;obtain⟨f,caps,items,σ,T,Hx,I,S,x0,js,hg,hI0,hle0,hsub0,hit,hround,hN,hRet,hEx⟩:=h st lc hC hpre;have hrel:=GC hr g;rw[hg]at hrel;generalize hev:a.eval g=gv at hrel;cases hrel with
 | @fn _ _ _ us lb e1 e2 e3 e4=>
  have hus:us= #[]:=by
   obtain⟨l⟩:=us;cases l with
   |nil=>rfl
   |cons=>simp at e1
  subst hus;have hcaps:RelL F own w caps lb:=⟨e2,e4⟩;have hids:∀ i∈jr st caps,∃ hd,own i=some hd:=nT hr.hp 64 _ [] (fun i hi=>by
   obtain⟨x,hx,hxi⟩:=List.mem_flatMap.1 hi;obtain⟨j,hj⟩:=List.getElem?_of_mem hx;exact wE 3 x _ (hcaps.2 j x hj) i hxi) (fun i hi=>by cases hi)
  have hnd:(jr st caps).Nodup:=jN st.h 64 _ [] List.nodup_nil;generalize hidsE:jr st caps=ids at hids hnd hsub0 hit;refine wpIn_block (wpIn_rangeFunc fun fn _=>?_);let rc:LRec:=⟨w.heap.size+1,fn,a.tmps,ps,assign,body,w.heap.size⟩
  let yv:Value:=.func (.yield (w.heap.size+1)) #[] #[]
  obtain⟨W1,hW1⟩:∃ W1,(w.alloc (.deferred (some []))).alloc (rc.obj .ready none)=W1:=⟨_,rfl⟩;have hsz1:W1.heap.size=w.heap.size+2:=by rw[<-hW1,et,et]
  have hold:∀ b,b<w.heap.size->W1.heap[b]? =w.heap[b]?:=fun b hb=>by
   rw[<-hW1,iL _ _ b (by rw[et];omega),iL _ _ b hb]
  have hl1:W1.heap[w.heap.size+1]? =some (rc.obj .ready none):=by
   rw[<-hW1];have:=fR (w.alloc (.deferred (some []))) (rc.obj .ready none);rwa[et]at this
  have hD1:W1.heap[w.heap.size]? =some (.deferred (some [])):=by
   rw[<-hW1,iL _ _ _ (by rw[et];omega)];exact fR w _
  refine⟨w.heap.size+1,[{ target:=.collected w.heap.size,args:= #[]}],W1,{ target:=.fn (.func f) lb,args:= #[yv]},W1,f,#[yv]++lb,W1,?_,?_,fun _ _=>trivial,?_,fun h=>(by cases h),?_⟩
  ·rw[<-hW1];exact run_enterLoop_outer _ _ _ _ _
  ·simp only[resolve,hev];simp[go_sem,yv]
  ·simp[invoke,go_sem,hit.1]
  let own_s:Own:=fun i=>if i∈ids then(own i).map (fun hd=>{ hd with bs:=[]})else own i
  let F1:Nat->Prop:=fun b=>F b\/b=w.heap.size\/b=w.heap.size+1\/∃ i hd,i∈ids/\own i=some hd/\b∈hd.bs
  have hs1:∀ i hd,own_s i=some hd->∃ hd0,own i=some hd0/\hd0.like hd/\∀ b∈hd.bs,i ∉ ids/\hd=hd0:=fun i hd e=>by
   by_cases hi:i∈ids
   ·simp only[own_s,if_pos hi,Option.map_eq_some_iff]at e;obtain⟨hd0,e1,rfl⟩:=e;exact⟨hd0,e1,⟨rfl,rfl,rfl⟩,fun b hb=>by cases hb⟩
   ·simp only[own_s,if_neg hi]at e;exact⟨hd,e,.refl _,fun b _=>⟨hi,rfl⟩⟩
  have hs2:∀ i hd,own i=some hd->∃ hd',own_s i=some hd'/\hd.like hd':=fun i hd e=>by
   by_cases hi:i∈ids
   ·exact⟨{ hd with bs:=[]},by simp only[own_s,if_pos hi,e];rfl,⟨rfl,rfl,rfl⟩⟩
   ·exact⟨hd,by simp only[own_s,if_neg hi];exact e,.refl _⟩
  have hcar1:Carries F own w F1 own_s W1:=⟨hs2,fun b hb hn=>⟨by
   rintro ((hf|hf|hf| ⟨i,hd,_,e,hm⟩) | ⟨i,hd,e,hm⟩)
   ·exact hn (.inl hf)
   ·omega
   ·omega
   ·exact hn (.inr ⟨i,hd,e,hm⟩)
   ·obtain⟨hd0,e0,_,e1⟩:=hs1 i hd e;obtain⟨_,rfl⟩:=e1 b hm;exact hn (.inr ⟨i,hd,e0,hm⟩),hold b hb⟩⟩
  have hp1:Hp F1 own_s W1 (pL ids st.h):=by
   refine⟨fun i hd e=>?_,fun b hb=>?_,fun i hd b e hm hb=>?_,fun i j hi hj b e1 e2 h1 h2=>?_,fun i hd b e hm=>?_,fun i hdd=>?_⟩
   ·obtain⟨hd0,e0,_⟩:=hs1 i hd e;exact Nat.lt_of_lt_of_le (hr.hp.dom i hd0 e0) (oU _ _)
   ·rcases hb with hf|hf|hf| ⟨i,hd,_,e,hm⟩
    ·have:=hr.hp.foreign b hf;omega
    ·omega
    ·omega
    ·have:=hr.hp.lt i hd b e hm;omega
   ·obtain⟨hd0,e0,_,e1⟩:=hs1 i hd e;obtain⟨hni,rfl⟩:=e1 b hm;have hlt:=hr.hp.lt i hd b e0 hm;rcases hb with hf|hf|hf| ⟨i2,hd2,h1,h2,h3⟩
    ·exact hr.hp.apart i hd b e0 hm hf
    ·omega
    ·omega
    ·exact hni (hr.hp.inj i i2 hd hd2 b e0 h2 hm h3▸h1)
   ·obtain⟨hd1,k1,_,k2⟩:=hs1 i hi e1;obtain⟨hd2,k3,_,k4⟩:=hs1 j hj e2;obtain⟨_,rfl⟩:=k2 b h1;obtain⟨_,rfl⟩:=k4 b h2;exact hr.hp.inj i j hi hj b k1 k3 h1 h2
   ·obtain⟨hd0,e0,_,e1⟩:=hs1 i hd e;obtain⟨_,rfl⟩:=e1 b hm;have:=hr.hp.lt i hd b e0 hm;omega
   ·rw[vz st.h i ids st.h]at hdd |-;by_cases hi:i∈ids
    ·rw[if_pos hi]at hdd;cases hdd
    ·rw[if_neg hi]at hdd |-;obtain⟨hd,e1,e2⟩:=hr.hp.obs i hdd;exact⟨hd,by simp only[own_s,if_neg hi];exact e1,e2.carry hcar1 (by omega) fun b hm=>hold b (hr.hp.lt i hd b e1 hm)⟩
  obtain⟨q1,q2,q3,q4⟩:=zT hsub0 hp1 hle0;change Hp F1 (ev js (Hx x0) own_s) W1 (Hx x0)at q1;generalize hown0:ev js (Hx x0) own_s=own_0 at q1 q2 q3 q4;have h0s:∀ i hd b,own_0 i=some hd->b∈hd.bs->∃ j,j ∉ ids/\own j=some hd:=fun i hd b e hm=>by
   rw[<-hown0]at e;obtain⟨_,j,hd0,_,e2,_,e4⟩:=eQ e;obtain⟨_,rfl⟩:=e4 b hm;obtain⟨hd1,k1,_,k2⟩:=hs1 j hd e2;obtain⟨k3,rfl⟩:=k2 b hm;exact⟨j,k3,k1⟩
  have hslot1:∀ t,Rel F1 own_0 W1 (lk t T) (a.tmps.getD t undef):=fun t=>by
   rcases sd t _ hsub0.2.1 with e| ⟨e1,e2⟩
   ·rw[e];exact .any _
   ·have h1:=(hr.slots t).carry hcar1;have e1':lk t st.t=ren (rQ js) 5 (lk t T):=e1;rw[e1']at h1;exact q3 F1 5 _ _ e2 h1
  let bs0:List Nat:=(w.heap.size+1)::GA own_0 (Hx x0).length
  have hbs0:∀ b,b∈bs0↔b=w.heap.size+1\/∃ i hd,own_0 i=some hd/\b∈hd.bs:=fun b=>by
   show b∈_::_↔_;rw[List.mem_cons,tJ q1.dom]
  let Ff:Nat->Prop:=fun b=>F b\/b=w.heap.size
  let own_f:Own:=fun i=>match i with|0=>some ⟨none,yv,[],bs0⟩ |i+1=>(ids[i]?).bind own
  have hf1:∀ i hd,own_f (i+1)=some hd->∃ j,ids[i]? =some j/\own j=some hd:=fun i hd e=>by
   have e':(ids[i]?).bind own=some hd:=e;rw[Option.bind_eq_some_iff]at e';exact e'
  have hffo:∀ b,bD Ff own_f b->(F b\/b=w.heap.size\/b=w.heap.size+1)\/∃ i hd,own i=some hd/\b∈hd.bs:=by
   rintro b ((hf|hf) | ⟨i,hd,e,hm⟩)
   ·exact .inl (.inl hf)
   ·exact .inl (.inr (.inl hf))
   ·cases i with
    |zero=>
     cases e;rcases(hbs0 b).1 hm with h| ⟨i,hd,e,hm⟩
     ·exact .inl (.inr (.inr h))
     ·obtain⟨j,_,k⟩:=h0s i hd b e hm;exact .inr ⟨j,hd,k,hm⟩
    |succ i=>obtain⟨j,_,k⟩:=hf1 i hd e;exact .inr ⟨j,hd,k,hm⟩
  let Fs:Nat->Prop:=fun b=>F b\/b=w.heap.size\/b=w.heap.size+1
  have hcar0:Carries F own w Fs own W1:=⟨fun _ hd e=>⟨hd,e,.refl _⟩,fun b hb hn=>⟨by
   rintro ((hf|hf|hf) |ho)
   ·exact hn (.inl hf)
   ·omega
   ·omega
   ·exact hn (.inr ho),hold b hb⟩⟩
  have hrn:Rn (z8 ids) own own_f:=⟨fun i j hd hm e=>by
   unfold z8 at hm;rw[Option.map_eq_some_iff]at hm;obtain⟨k,hk,rfl⟩:=hm;refine⟨hd,?_,.refl _⟩;show(ids[k]?).bind own=some hd;rw[jq ids i k hk];exact e⟩
  have hsh:∀ b,¬bD Fs own b->¬bD Ff own_f b:=fun b hn ho=>hn (hffo b ho);let F':Nat->Prop:=fun b=>bD Ff own_f b/\b ∉ bs0
  have hF'1:∀ b,Fw F' rc.l W1 b->F1 b:=by
   rintro b (⟨⟨ho,hn⟩,_⟩ |hb)
   ·rcases ho with(hf|hf) | ⟨i,hd,e,hm⟩
    ·exact .inl hf
    ·exact .inr (.inl hf)
    ·cases i with
     |zero=>cases e;exact absurd hm hn
     |succ i=>obtain⟨j,k1,k2⟩:=hf1 i hd e;exact .inr (.inr (.inr ⟨j,hd,List.mem_of_getElem? k1,k2,hm⟩))
   ·exact .inr (.inr (.inl hb))
  have hcarP:Carries F1 own_0 W1 (Fw F' rc.l W1) own_0 W1:=⟨fun _ hd e=>⟨hd,e,.refl _⟩,fun b _ hn=>⟨fun ho=>hn (ho.imp (hF'1 b) (fun e=>e)),rfl⟩⟩;have hpk:Pack rc T own st.h.length (Hx x0) (rc.obj .ready none) own_0 F' bs0 W1:=by
   refine⟨⟨q1.dom,fun b hb=>q1.foreign b (hF'1 b hb),fun i hd b e hm hb=>q1.apart i hd b e hm (hF'1 b hb),q1.inj,q1.lt,fun i hdd=>?_⟩,fun t=>(hslot1 t).carry hcarP,hbs0,fun i hd e=>?_,fun hf=>hf.2 ((hbs0 _).2 (.inl rfl)),hl1,hle0⟩
   ·obtain⟨hd,e1,e2⟩:=q1.obs i hdd;exact⟨hd,e1,e2.carry hcarP (Nat.le_refl _) fun _ _=>rfl⟩
   ·obtain⟨hd1,k1,l1⟩:=hs2 i hd e;obtain⟨hd2,k2,l2⟩:=q4 i hd1 (hr.hp.dom i hd e) k1;exact⟨hd2,k2,l1.trans l2⟩
  have hpf:Hp Ff own_f W1 (.ab (itR rc T own st.h.length Hx I S 1)::yp ids st.h):=by
   refine⟨fun i hd e=>?_,fun b hb=>?_,fun i hd b e hm hb=>?_,fun i j hi hj b e1 e2 h1 h2=>?_,fun i hd b e hm=>?_,fun i hdd=>?_⟩
   ·cases i with
    |zero=>simp
    |succ i=>
     obtain⟨j,k1,_⟩:=hf1 i hd e;have:=(List.getElem?_eq_some_iff.1 k1).1;simp[yp];exact this
   ·rcases hb with hf|hf
    ·have:=hr.hp.foreign b hf;omega
    ·omega
   ·have hnot:∀ i hd,own i=some hd->b∈hd.bs->False:=fun i hd e hm=>by
     rcases hb with hf|hf
     ·exact hr.hp.apart i hd b e hm hf
     ·have:=hr.hp.lt i hd b e hm;omega
    cases i with
    |zero=>
     cases e;rcases(hbs0 b).1 hm with h| ⟨i,hd,e,hm⟩
     ·rcases hb with hf|hf
      ·have:=hr.hp.foreign b hf;omega
      ·omega
     ·obtain⟨j,_,k⟩:=h0s i hd b e hm;exact hnot j hd k hm
    |succ i=>obtain⟨j,_,k⟩:=hf1 i hd e;exact hnot j hd k hm
   ·have hmix:∀ i hd,own_f (i+1)=some hd->b∈hd.bs->b∈bs0->False:=fun i hd e hm h0=>by
     obtain⟨j,k1,k2⟩:=hf1 i hd e;rcases(hbs0 b).1 h0 with h| ⟨i2,hd2,e2,hm2⟩
     ·have:=hr.hp.lt j hd b k2 hm;omega
     ·obtain⟨j2,k3,k4⟩:=h0s i2 hd2 b e2 hm2;exact k3 (hr.hp.inj j2 j hd2 hd b k4 k2 hm2 hm▸List.mem_of_getElem? k1)
    cases i with
    |zero=>
     cases j with
     |zero=>rfl
     |succ j=>cases e1;exact(hmix j hj e2 h2 h1).elim
    |succ i=>
     cases j with
     |zero=>cases e2;exact(hmix i hi e1 h1 h2).elim
     |succ j=>
      obtain⟨k,k1,k2⟩:=hf1 i hi e1;obtain⟨k',k3,k4⟩:=hf1 j hj e2;have:=hr.hp.inj k k' hi hj b k2 k4 h1 h2;subst this;rw[kF hnd k1 k3]
   ·rcases hffo b (.inr ⟨i,hd,e,hm⟩)with(h|h|h) | ⟨j,hd2,k,hm2⟩
    ·have:=hr.hp.foreign b h;omega
    ·omega
    ·omega
    ·have:=hr.hp.lt j hd2 b k hm2;omega
   ·cases i with
    |zero=>exact⟨_,rfl,rfl,x0,own_0,hI0,hpk⟩
    |succ i=>
     have hob:ae (.ab (itR rc T own st.h.length Hx I S 1)::yp ids st.h) (i+1)=ae (yp ids st.h) i:=rfl;rw[hob]at hdd |-;rw[jy]at hdd |-;unfold yp at hdd |-;rw[List.getElem?_map]at hdd |-;cases hi:ids[i]? with
     |none=>rw[hi]at hdd;simp[bZ]at hdd
     |some j=>
      rw[hi]at hdd;simp only[Option.map_some,Option.getD_some]at hdd |-;rw[mz]at hdd;obtain⟨hd,e1,e2⟩:=hr.hp.obs j hdd;refine⟨hd,by show(ids[i]?).bind own=some hd;rw[hi];exact e1,?_⟩;have e3:ObRel Fs own W1 hd (ae st.h j):=e2.carry hcar0 (by omega) fun b hm=>hold b (hr.hp.lt j hd b e1 hm);refine tg hrn hsh (fun b _ ho=>?_) e3;rcases hffo b ho with h|h
      ·exact .inl h
      ·exact .inr h
  have hvs:RelL Ff own_f W1 (.os 0::caps.map (ren (z8 ids) 3)) (#[yv]++lb):=by
   refine⟨by simp[e2];omega,fun j s hj=>?_⟩;cases j with
   |zero=>
    simp at hj;subst hj;have:(#[yv]++lb).getD 0 undef=yv:=by simp only[Array.getD_eq_getD_getElem?];rw[Array.getElem?_append_left (by simp)];rfl
    rw[this];exact Rel.os (hd:=⟨none,yv,[],bs0⟩) rfl rfl
   |succ j=>
    simp only[List.getElem?_cons_succ]at hj;obtain⟨s0,k1,rfl⟩:=b_ hj;have:(#[yv]++lb).getD (j+1) undef=lb.getD j undef:=by
     simp only[Array.getD_eq_getD_getElem?];rw[Array.getElem?_append_right (by simp)];simp
    rw[this];exact r9 hrn hsh 3 s0 _ ((e4 j s0 k1).carry hcar0)
  refine CallsIn.mono (iP (hit.2 (itR rc T own st.h.length Hx I S) (fun k=>(IB k).1) (Ka hm hts hG hr.size (fun i hd e=>hr.hp.dom i hd e) hpn hpN hca hcb hround) Ff own_f W1 _ hpf hvs)) ?_;rintro e w3 ⟨u,own',j,h',rfl,hj,hp3,fr3⟩;obtain⟨hd0,e0,hv0,hR⟩:=hp3.obs 0 rfl;have hl3:∀ {y own_e o},Pack rc T own st.h.length (Hx y) o own_e (fun b=>bD Ff own' b/\b ∉ hd0.bs) hd0.bs w3->w3.heap[w.heap.size+1]? =some o:=fun pk=>pk.rcd;have fin:∀ y own_e s p,Pack rc T own st.h.length (Hx y) (rc.obj s p) own_e (fun b=>bD Ff own' b/\b ∉ hd0.bs) hd0.bs w3->
    StRel Fs w0 N own_e ⟨T,Hx y⟩ { a with defers:=[{ target:=.collected w.heap.size,args:= #[]}]++a.defers} (w3.putObj (w.heap.size+1) (rc.obj .exhausted p)):=by
   intro y own_e s p pk;have hsz3:=fr3.size;have hsz3':W1.heap.size<=w3.heap.size:=hsz3;have hl3s:w.heap.size+1<w3.heap.size:=by omega
   have hoth:∀ c,c≠w.heap.size+1->(w3.putObj (w.heap.size+1) (rc.obj .exhausted p)).heap[c]? =w3.heap[c]?:=fun c hc=>World.putObj_heap_other hc;have hownE:∀ i hd b,own_e i=some hd->b∈hd.bs->b∈hd0.bs/\b≠w.heap.size+1:=fun i hd b e hm=>⟨(pk.bs b).2 (.inr ⟨i,hd,e,hm⟩),fun e'=>pk.hp.apart i hd b e hm (.inr e')⟩;have hnF:∀ b,b∈hd0.bs->¬Ff b:=fun b hb hf=>hp3.apart 0 hd0 b e0 hb hf;have hFsFw:∀ b,Fs b->Fw (fun b=>bD Ff own' b/\b ∉ hd0.bs) rc.l w3 b:=fun b hb=>by
    rcases hb with hf|hf|hf
    ·exact .inl ⟨⟨.inl (.inl hf),fun hm=>hnF b hm (.inl hf)⟩,hp3.foreign b (.inl hf)⟩
    ·exact .inl ⟨⟨.inl (.inr hf),fun hm=>hnF b hm (.inr hf)⟩,hp3.foreign b (.inr hf)⟩
    ·exact .inr hf
   have hcarE:Carries (Fw (fun b=>bD Ff own' b/\b ∉ hd0.bs) rc.l w3) own_e w3 Fs own_e (w3.putObj (w.heap.size+1) (rc.obj .exhausted p)):=⟨fun _ hd e=>⟨hd,e,.refl _⟩,fun b _ hn=>⟨fun ho=>hn (ho.imp (hFsFw b) (fun e=>e)),hoth b fun e=>hn (.inl (.inr e))⟩⟩;have hkeep:∀ b,b<w.heap.size->(¬ ∃ i hd,own i=some hd/\b∈hd.bs)->w3.heap[b]? =w.heap[b]?:=fun b hb hn=>by
    rw[fr3.block b ⟨by show b<W1.heap.size;omega,fun⟨i,hd,e,hm⟩ =>?_⟩]
    ·exact hold b hb
    ·cases i with
     |zero=>
      cases e;rcases(hbs0 b).1 hm with h| ⟨i,hd,e,hm⟩
      ·omega
      ·obtain⟨j,_,k⟩:=h0s i hd b e hm;exact hn ⟨j,hd,k,hm⟩
     |succ i=>obtain⟨j,_,k⟩:=hf1 i hd e;exact hn ⟨j,hd,k,hm⟩
   have hD3:w3.heap[w.heap.size]? =some (.deferred (some [])):=by
    rw[fr3.block w.heap.size ⟨by show w.heap.size<W1.heap.size;omega,fun⟨i,hd,e,hm⟩ =>hpf.apart i hd _ e hm (.inr rfl)⟩];exact hD1
   refine⟨hr.size,?_,⟨pk.hp.dom,fun b hb=>?_,fun i hd b e hm hb=>pk.hp.apart i hd b e hm (hFsFw b hb),pk.hp.inj,fun i hd b e hm=>by have:=pk.hp.lt i hd b e hm;simpa using this,fun i hdd=>?_⟩,hr.fr.trans ⟨pk.ids,fun i hd b e hm ho=>?_,fr3.os.trans (by rw[<-hW1];rfl),fr3.tape.trans (by rw[<-hW1];rfl),fr3.output.trans (by rw[<-hW1];rfl),by simp;omega,fun b hb=>?_⟩,fun t=>(pk.slots t).carry hcarE⟩
   ·obtain⟨ms,Ds,k0,k1,k2,k3⟩:=hr.defers;refine⟨{ target:=.collected w.heap.size,args:= #[]}::ms,w.heap.size::Ds,by simp[k0],by simp[k1],List.nodup_cons.2 ⟨fun hm=>?_,k2⟩,fun D hD=>?_⟩
    ·have:=iK (k3 _ hm).2.2;omega
    ·rcases List.mem_cons.1 hD with rfl|hD
     ·exact⟨hr.fr.size,.inr (.inl rfl),by rw[hoth _ (by omega)];exact hD3⟩
     ·obtain⟨m1,m2,m3⟩:=k3 D hD;have hlt:=iK m3;exact⟨m1,.inl m2,by rw[hoth _ (by omega),hkeep D hlt fun⟨i,hd,e,hm⟩ =>hr.hp.apart i hd D e hm m2];exact m3⟩
   ·have:=pk.hp.foreign b (hFsFw b hb);simpa using this
   ·obtain⟨hd,e1,e2⟩:=pk.hp.obs i hdd;exact⟨hd,e1,e2.carry hcarE (by simp) fun b hm=>hoth b (hownE i hd b e1 hm).2⟩
   ·have h1:=fr3.base 0 hd0 b e0 (hownE i hd b e hm).1;refine h1 ⟨by show b<W1.heap.size;have:=ho.1;change b<w.heap.size at this;omega,fun⟨i2,hd2,e2,hm2⟩ =>?_⟩;cases i2 with
    |zero=>
     cases e2;rcases(hbs0 b).1 hm2 with h| ⟨i3,hd3,e3,hm3⟩
     ·exact(hownE i hd b e hm).2 h
     ·obtain⟨j,_,k⟩:=h0s i3 hd3 b e3 hm3;exact ho.2 ⟨j,hd3,k,hm3⟩
    |succ i2=>obtain⟨j,_,k⟩:=hf1 i2 hd2 e2;exact ho.2 ⟨j,hd2,k,hm2⟩
   ·have hblt:b<w.heap.size:=hb.1;rw[hoth b (by omega)];exact hkeep b hblt hb.2
  have fin2:∀ y own_e s p ex,Pack rc T own st.h.length (Hx y) (rc.obj s p) own_e (fun b=>bD Ff own' b/\b ∉ hd0.bs) hd0.bs w3->GB lc st.h.length ex ⟨T,Hx y⟩->
    ∃ F3 own3 st3,(∀ b,F b->F3 b)/\StRel F3 w0 N own3 st3 { a with defers:=[{ target:=.collected w.heap.size,args:= #[]}]++a.defers} (w3.putObj (w.heap.size+1) (rc.obj .exhausted p))/\∃ r,lc.post r/\ex=lc.ex r/\st3=lc.out r:=by
   rintro y own_e s p ex pk ⟨r,js2,m1,m2,m3,m4⟩;exact⟨Fs,_,_,fun b hb=>.inl hb,(fin y own_e s p pk).sub m4 hr.base_lt m3,r,m1,m2.symm,rfl⟩
  rcases hj with rfl|rfl
  ·obtain⟨ex,y,own_e,hS,hjm,pk⟩:=hR;refine⟨z7 ex,_,run_endLoop (P:=P) (hl3 pk) (by simp[LRec.obj]),?_⟩;cases ex with
   |normal=>cases hjm
   |pan x=>cases hjm
   |ret=>exact wpIn_ret (fin2 y own_e _ _ .ret pk (hRet y hS))
   |exit jj=>
    refine wpIn_exit ?_;have h2:=fin2 y own_e _ _ _ pk (hEx jj y hS);show if jj=id then _ else _;by_cases hjj:jj=id
    ·rw[if_pos hjj]at h2 |-;exact h2
    ·rw[if_neg hjj]at h2 |-;exact h2
  ·obtain⟨y,own_e,hIy,pk⟩:=hR;exact⟨none,_,run_endLoop (P:=P) (hl3 pk) (by simp[LRec.obj]),fin2 y own_e _ _ .normal pk (hN y hIy)⟩
end
def okI {ρ σ:Type}(step:Nat->σ->ρ⊕σ)(p:Nat->σ->Prop):Nat->Nat->σ->Prop
 |0,_,_=>True
 |n+1,i,s=>p i s/\∀ s',step i s=.inr s'->okI step p n (i+1) s'
theorem mB {ρ σ:Type}{step:Nat->σ->ρ⊕σ}{p:Nat->σ->Prop}:∀ (n i:Nat) (s:σ),(∀ j s,i<=j->j<i+n->p j s)->okI step p n i s
 |0,_,_,_=>trivial
 |n+1,i,s,h=>⟨h i s (Nat.le_refl _) (by omega),fun s' _=>mB n (i+1) s' fun j s h1 h2=>h j s (by omega) (by omega)⟩
theorem se {ρ σ:Type}{step:Nat->σ->ρ⊕σ}{p:Nat->σ->Prop}(J:Nat->σ->Prop):∀ (n i:Nat) (s:σ),J i s->(∀ j s,i<=j->j<i+n->J j s->p j s/\∀ s',step j s=.inr s'->J (j+1) s')->okI step p n i s
 |0,_,_,_,_=>trivial
 |n+1,i,s,h0,h=>⟨(h i s (Nat.le_refl _) (by omega) h0).1,fun s' hs=>se J n (i+1) s' ((h i s (Nat.le_refl _) (by omega) h0).2 s' hs) fun j s h1 h2=>h j s (by omega) (by omega)⟩
theorem tK {ρ σ:Type}{step:Nat->σ->ρ⊕σ}(J:Nat->σ->Prop):∀ (n i:Nat) (s:σ),J i s->(∀ j s,i<=j->j<i+n->J j s->∀ s',step j s=.inr s'->J (j+1) s')->∀ r,aq step n i s=.inr r->J (i+n) r
 |0,i,s,h0,_,r,hr=>by simp only[aq,Sum.inr.injEq]at hr;subst hr;exact h0
 |n+1,i,s,h0,h,r,hr=>by
  simp only[aq]at hr;cases hs:step i s with
  |inl x=>rw[hs]at hr;cases hr
  |inr s'=>
   rw[hs]at hr;have:=tK J n (i+1) s' (h i s (Nat.le_refl _) (by omega) h0 s' hs) (fun j s h1 h2=>h j s (by omega) (by omega)) r hr;rw[show i+(n+1)=i+1+n by omega];exact this
section
variable {P:Program}{ρ σ:Type}
def yr (D:Nat->σ->St)(js:List Nat)(n0 k:Nat)(st:St):ρ⊕σ->Prop
 | .inl _=>False
 | .inr s'=>n0<=(D (k+1) s').h.length/\Sub js n0 st (D (k+1) s')
def exQ (exE:ρ->Ex)(outE:ρ->St)(js:List Nat)(n0:Nat)(e:Ex)(st:St):ρ⊕σ->Prop
 | .inl x=>exE x=e/\n0<=(outE x).h.length/\Sub js n0 st (outE x)
 | .inr _=>False
def cQ (step:Nat->σ->ρ⊕σ)(n:Nat)(exE:ρ->Ex)(outE:ρ->St)(outN:σ->St)(D:Nat->σ->St)(js:List Nat)(n0 id k:Nat)(s:σ):Ex->St->Prop
 | .normal,st=>k<n/\yr D js n0 k st (step k s)
 | .exit j,st=>bif Nat.beq j id then(n<=k->n0<=(outN s).h.length/\Sub js n0 st (outN s))/\(k<n->exQ exE outE js n0 .normal st (step k s))else k<n/\exQ exE outE js n0 (.exit j) st (step k s)
 | .ret,st=>k<n/\exQ exE outE js n0 .ret st (step k s)
 | .pan x,st=>k<n/\exQ exE outE js n0 (.pan x) st (step k s)
variable {step:Nat->σ->ρ⊕σ}{n n0 id k j:Nat}{exE:ρ->Ex}{outE:ρ->St}{outN:σ->St}{D:Nat->σ->St}{js:List Nat}{s s':σ}{st:St}{x:Value}{e:Ex}{y:ρ}
@[go_sem] theorem Mv:yr (ρ:=ρ) D js n0 k st (.inr s')=(n0<=(D (k+1) s').h.length/\Sub js n0 st (D (k+1) s')):=(rfl)
@[go_sem] theorem P8:exQ (σ:=σ) exE outE js n0 e st (.inl y)=(exE y=e/\n0<=(outE y).h.length/\Sub js n0 st (outE y)):=(rfl)
@[go_sem] theorem Mw:cQ step n exE outE outN D js n0 id k s .normal st=(k<n/\yr D js n0 k st (step k s)):=(rfl)
@[go_sem] theorem P9:cQ step n exE outE outN D js n0 id k s (.exit j) st=bif Nat.beq j id then(n<=k->n0<=(outN s).h.length/\Sub js n0 st (outN s))/\(k<n->exQ exE outE js n0 .normal st (step k s))else k<n/\exQ exE outE js n0 (.exit j) st (step k s):=(rfl)
@[go_sem] theorem QM:cQ step n exE outE outN D js n0 id k s .ret st=(k<n/\exQ exE outE js n0 .ret st (step k s)):=(rfl)
@[go_sem] theorem QN:cQ step n exE outE outN D js n0 id k s (.pan x) st=(k<n/\exQ exE outE js n0 (.pan x) st (step k s)):=(rfl)
@[congr] theorem IC {r r':ρ⊕σ}(h:r=r'):yr D js n0 k st r=yr D js n0 k st r':=by rw[h]
@[congr] theorem Mx {r r':ρ⊕σ}(h:r=r'):exQ exE outE js n0 e st r=exQ exE outE js n0 e st r':=by rw[h]
@[congr] theorem Of {st st':St}{e e':Ex}(h:st=st')(he:e=e'):cQ step n exE outE outN D js n0 id k s e st=cQ step n exE outE outN D js n0 id k s e' st':=by rw[h,he]
theorem Cp {ts:Tis}{G:Cons}{ro:Option Nat}{N:Nat}(hm:P.follows .mixedOrders=true)(hts:ts.ok P)(hG:ConsOk P G){id:Nat}{c:Code}(hc:ca N c=true){C:St->Option LCon}
  (h:∀ st lc,C st=some lc->lc.pre->∃ (ρ σ:Type) (pre:Prop) (step:Nat->σ->ρ⊕σ) (p:Nat->σ->Prop) (n:Nat) (s0:σ) (exE:ρ->Ex) (outE:ρ->St) (outN:σ->St) (D:Nat->σ->St) (js:List Nat),
   lc=LC pre (aq step n 0 s0) exE outE outN/\okI step p n 0 s0/\st.h.length<=(D 0 s0).h.length/\Sub js st.h.length st (D 0 s0)/\
   ∀ k s,k<=n->(k<n->p k s)->∃ L,ap P ro N L c/\exec ts G L c (D k s) (cQ step n exE outE outN D js st.h.length id k s)):gT P ro N id (.loop c) C:=by
 refine yl hm hts hG hc fun st lc hC hp=>?_;obtain⟨ρ,σ,pre,step,p,n,s0,exE,outE,outN,D,js,rfl,h1,h2,h3,h4⟩:=h st lc hC hp;refine⟨Nat×σ,fun x=>D x.1 x.2,fun x=>x.1<=n/\okI step p (n - x.1) x.1 x.2/\aq step (n - x.1) x.1 x.2=aq step n 0 s0,fun x=>n - x.1,(0,s0),js,⟨Nat.zero_le _,by simpa using h1,by simp⟩,h2,h3,?_⟩;rintro⟨k,s⟩ ⟨hk,hJ,hrun⟩;simp only at hk hJ hrun;obtain⟨L,hl,hex⟩:=h4 k s hk (fun hlt=>by
  rw[show n - k=(n - k - 1)+1 by omega]at hJ;exact hJ.1)
 refine⟨L,_,hl,?_,hex⟩;have hfin:∀ e st',k<n->exQ exE outE js st.h.length e st' (step k s)->∃ r js,(LC pre (aq step n 0 s0) exE outE outN).post r/\(LC pre (aq step n 0 s0) exE outE outN).ex r=e/\st.h.length<=((LC pre (aq step n 0 s0) exE outE outN).out r).h.length/\Sub js st.h.length st' ((LC pre (aq step n 0 s0) exE outE outN).out r):=by
  intro e st' hlt q;cases hs:step k s with
  |inr s'=>rw[hs]at q;exact q.elim
  |inl x=>
   rw[hs]at q;obtain⟨q2,q3,q4⟩:=q;rw[show n - k=(n - k - 1)+1 by omega]at hrun;simp only[aq,hs]at hrun;exact⟨.inl x,js,hrun,q2,q3,q4⟩
 intro e st' hq;cases e with
 |normal=>
  obtain⟨q1,q2⟩:=hq;cases hs:step k s with
  |inl x=>rw[hs]at q2;exact q2.elim
  |inr s'=>
   rw[hs]at q2;rw[show n - k=(n - (k+1))+1 by omega]at hrun hJ;simp only[aq,hs]at hrun;exact⟨(k+1,s'),js,⟨q1,hJ.2 s' hs,hrun⟩,by simp only;omega,q2.1,q2.2⟩
 |exit j=>
  have hq':(bif Nat.beq j id then(n<=k->st.h.length<=(outN s).h.length/\Sub js st.h.length st' (outN s))/\(k<n->exQ exE outE js st.h.length .normal st' (step k s))else k<n/\exQ exE outE js st.h.length (.exit j) st' (step k s)):=hq;show bif Nat.beq j id then _ else _;cases hb:Nat.beq j id with
  |true=>
   rw[hb]at hq';simp only[cond_true]at hq' |-;by_cases hlt:k<n
   ·exact hfin _ _ hlt (hq'.2 hlt)
   ·obtain⟨q3,q4⟩:=hq'.1 (by omega);have hkn:k=n:=by omega
    subst hkn;simp only[Nat.sub_self,aq]at hrun;exact⟨.inr s,js,hrun,rfl,q3,q4⟩
  |false=>rw[hb]at hq';exact hfin _ _ hq'.1 hq'.2
 |ret=>exact hfin _ _ hq.1 hq.2
 |pan x=>exact hfin _ _ hq.1 hq.2
end
def d7 {ρ σ:Type}[Inhabited σ]:ρ⊕σ->σ| .inr s=>s| .inl _=>default
def eJ {ρ σ:Type}[Inhabited ρ]:ρ⊕σ->ρ| .inl s=>s| .inr _=>default
@[go_sem] theorem D8 {ρ σ:Type}[Inhabited σ]{s:σ}:d7 (ρ:=ρ) (.inr s)=s:=(rfl)
@[go_sem] theorem D9 {ρ σ:Type}[Inhabited ρ]{s:ρ}:eJ (σ:=σ) (.inl s)=s:=(rfl)
theorem D_ {k:Nat}{n:Int}(h:k<n.toNat)(hn:n<9223372036854775808):i64.wrap ((k:Int)+1)=((k+1:Nat):Int):=by
 rw[bB (by omega) (by omega)];omega
def og (pks:List Pk):SV->SV
 | .tup l=>.tup (dJ pks l)
 |s=>match pks with| [p] =>qs p s|_=>s
section
variable {F:Nat->Prop}{own:Own}{w:World}
theorem yu {pks:List Pk}{s:SV}{v:Value}(h:Rel F own w s v):Rel F own w (og pks s) v:=by
 unfold og;split
 ·cases h with
  |tup h0 h1=>
   refine .tup (by rw[tH];exact h0) fun j s hj=>?_;obtain⟨s0,e1,e2| ⟨p,e2⟩⟩:=tI _ _ _ _ hj
   ·subst e2;exact h1 j _ e1
   ·subst e2;exact tG (h1 j _ e1)
 ·split
  ·exact tG h
  ·exact h
@[go_sem] theorem Og {pks:List Pk}{l:List SV}:og pks (.tup l)=.tup (dJ pks l):=(rfl)
@[go_sem] theorem Oh {p:Pk}{l:List SV}:og [p] (.agg l)=qs p (.agg l):=(rfl)
@[go_sem] theorem QO {p:Pk}{x:Value}:og [p] (.v x)=qs p (.v x):=(rfl)
@[go_sem] theorem P_ {p:Pk}{k:Tag}{l:List k.T}:og [p] (.rs k l)=qs p (.rs k l):=(rfl)
@[go_sem] theorem Qa {p:Pk}{k k2:Tag}{l:List (k.T×k2.T)}:og [p] (.rm k k2 l)=qs p (.rm k k2 l):=(rfl)
@[go_sem] theorem Qb {p:Pk}:og [p] .e0=qs p .e0:=(rfl)
end
section
variable {P:Program}{ts:Tis}{G:Cons}
theorem cj (pks:List Pk) (hm:P.follows .mixedOrders=true) (hts:ts.ok P) (hG:ConsOk P G) {f:FuncId} {fn:Func} {c:Code} (hf:P.funcs[f]? =some fn) (hb:fn.body=some c) (hname:(fn.name== "runtime.NumGoroutine")=false)
  (hc:ca fn.ntmps c=true) {C:List SV->Option Con}
  (h:∀ l con,C l=some con->bb con->l.length<=fn.ntmps/\∃ L,ap P none fn.ntmps L c/\exec ts G L c ⟨iJ 0 l,[]⟩ (xI false fn.results.toList ts (fun s=>cH con (og pks s)) (iu con))):FnOk P f C:=by
 refine⟨fun l con _ args w=>?_,fun l con hcon hpre F w vs hF hvs=>?_⟩
 ·have hn:¬fn.name= "runtime.NumGoroutine":=by simpa using hname
  simp[callFunc,hf,hn,hb]
 ·obtain⟨hlen,L,hl,hx⟩:=h l con hcon hpre;refine kQ (n:=0) (callsIn_of_wp_marks hf hb trivial ?_);have hr:StRel F { w:=w,own:=bX} fn.ntmps bX ⟨iJ 0 l,[]⟩ { tmps:=vs++Array.replicate (fn.ntmps - vs.size) undef,defers:=[]} w:=
   ⟨by have:=hvs.1;simp;omega,Dfr.nil,pK hF,Fr.refl _,fun t=>jQ hvs _ t⟩
  refine wpIn_mono (kp hm hts hG c hc hl F _ _ hx bX _ w hr) ?_;intro e a' w' hq;have key:∀ F1 own st,(∀ b,F b->F1 b)->StRel F1 { w:=w,own:=bX} fn.ntmps own st a' w'->c9 (fun s=>cH con (og pks s)) (oN false fn.results.toList ts st)->LeavesInM (rd none) 0 P fn a'.tmps
    (fun e w'=>(∃ s u own',cH con s/\e=.returned u/\Handed F w own' w' s u/\Below w.heap.size w w')\/(∃ x,iu con x/\e=.panicked [{ v:=x,recovered:=false}]/\Below w.heap.size w w')) a'.defers .returning w':=by
   intro F1 own st hF1 hst hdone;refine ia hst (by simp) fun w2 hst2=>?_;have hst3:=hst2.less hF1 rfl;simp only[oN,cond_false,pi]at hdone;cases hs:jh (ir ts st fn.results.toList)with
   |none=>rw[hs]at hdone;exact hdone.elim
   |some s=>
    obtain⟨u,e1,e2⟩:=pJ (P:=P) hts hst3 hs;refine⟨u,e1,.inl ?_⟩;rw[hs]at hdone;exact⟨_,u,bX,hdone,rfl,nA hst3.hp.foreign (yu (nS hst3.hp 4 s u e2)),jP hst3.fr⟩
  cases e with
  |normal=>obtain⟨F1,own,st,h0,h1,h2⟩:=hq;exact key F1 own st h0 h1 h2
  |ret=>obtain⟨F1,own,st,h0,h1,h2⟩:=hq;exact key F1 own st h0 h1 h2
  |exit id=>obtain⟨F1,own,st,h0,h1,h2⟩:=hq;exact h2.elim
  |panic ch=>
   obtain⟨x,F1,own,st,h0,h1,h2,rfl⟩:=hq;exact ia h1 (by simp) fun w2 hst2=>.inr ⟨x,h2,rfl,jP hst2.fr⟩
  |_=>exact hq.elim
end
theorem oW {o:Ob}(ho:AO o=false):∀ (h:List Ob) (i:Nat),gS h=false->gS (bf h i o)=false
 | [],0,_=>by simp[bf,gS,ho]
 | [],n+1,_=>by simp[bf,gS,AO,oW ho [] n rfl]
 |a::r,0,h=>by simp only[gS,Bool.or_eq_false_iff]at h;simp[bf,gS,ho,h.2]
 |a::r,n+1,h=>by simp only[gS,Bool.or_eq_false_iff]at h;simp[bf,gS,h.1,oW ho r n h.2]
def ID (P:Program)(g:FuncId)(C:Value->Option SV):Prop:=
 (∀ (args:Array Value) (w:World),(callFunc g args).run P w=.ok (.enter g args) w)/\
 (∀ (p:Addr) (w:World),CallsDIn (rd none) 0 P g #[.pointer (some p)] .returning w (fun e u' w'=>(∃ v,e=.returned v)/\u'=.returning/\w'=w))/\
 ∀ (x:Value) (s:SV),C x=some s->∀ (F:Nat->Prop) (own:Own) (w:World) (h:List Ob) (id:Nat) (hd:Hd) (b:Nat) (y:SV),gS h=false->Hp F own w h->ae h id=.cells [y]->own id=some hd->hd.p=some b->
  CallsDIn (rd none) 0 P g #[.pointer (some ⟨b,0,none⟩)] (.panicking [{ v:=x,recovered:=false}]) w (fun e u' w'=>(∃ v,e=.returned v)/\u'=.panicking [{ v:=x,recovered:=true}]/\∃ own',Hp F own' w' (bf h id (.cells [s]))/\Fr { w:=w,own:=own} own' w')
section
variable {P:Program}{ts:Tis}{G:Cons}
theorem wQ {n:Nat}{g:FuncId}{i1 t3 q:Nat}{o1 o2:Oper}{tys:Array TypeId}{Q:Exit->Act->World->Prop}{a:Act}{w:World}{b:Nat}
  (ho1:o1.dst=some t3/\o1.op=.makeFunc (.func g) #[] #[.tmp q]/\o1.guard=none) (ho2:o2.dst=none/\o2.op=.defer ⟨.value (.tmp t3),#[],tys⟩/\o2.guard=none)
  (hq:a.tmps.getD q undef=.pointer (some ⟨b,0,none⟩)) (ht3:t3<a.tmps.size)
  (h:Q .normal { tmps:=a.tmps.setIfInBounds t3 (.func (.func g) #[] #[.pointer (some ⟨b,0,none⟩)]),defers:= { target:=.fn (.func g) #[.pointer (some ⟨b,0,none⟩)],args:= #[]}::a.defers} w):
  (Code.region i1 #[o1,o2] false).wpIn (rd none) n P Q a w:=by
 obtain⟨d1,p1,t1,s1,f1,g1⟩:=o1;obtain⟨d2,p2,t2,s2,f2,g2⟩:=o2;obtain⟨rfl,rfl,rfl⟩:=ho1;obtain⟨rfl,rfl,rfl⟩:=ho2;refine wpIn_region ?_;have hget:(a.tmps.setIfInBounds t3 (.func (.func g) #[] #[.pointer (some ⟨b,0,none⟩)])).getD t3 undef=.func (.func g) #[] #[.pointer (some ⟨b,0,none⟩)]:=by
  simp[Array.getD_eq_getD_getElem?,ht3]
 have hr1:List.range (#[(⟨some t3,.makeFunc (.func g) #[] #[.tmp q],t1,s1,f1,none⟩:Oper),(⟨none,.defer ⟨.value (.tmp t3),#[],tys⟩,t2,s2,f2,none⟩:Oper)]:Array Oper).size=[0,1]:=rfl;rw[hr1];simp only[wpOpsIn,Oper.wpIn,Region.wanted];have e1:(#[(⟨some t3,.makeFunc (.func g) #[] #[.tmp q],t1,s1,f1,none⟩:Oper),(⟨none,.defer ⟨.value (.tmp t3),#[],tys⟩,t2,s2,f2,none⟩:Oper)]:Array Oper)[0]? =some ⟨some t3,.makeFunc (.func g) #[] #[.tmp q],t1,s1,f1,none⟩:=rfl;have e2:(#[(⟨some t3,.makeFunc (.func g) #[] #[.tmp q],t1,s1,f1,none⟩:Oper),(⟨none,.defer ⟨.value (.tmp t3),#[],tys⟩,t2,s2,f2,none⟩:Oper)]:Array Oper)[1]? =some ⟨none,.defer ⟨.value (.tmp t3),#[],tys⟩,t2,s2,f2,none⟩:=rfl;rw[e1,e2];simp only[if_true];refine⟨fun _ _=>trivial,?_⟩;have r1:((⟨some t3,.makeFunc (.func g) #[] #[.tmp q],t1,s1,f1,none⟩:Oper).semAt (rd none).round a.eval).run P w=.ok (.value (.func (.func g) #[] #[.pointer (some ⟨b,0,none⟩)])) w:=by
  simp[Oper.semAt,execOp,go_sem,Act.eval,hq];try rfl
 rw[r1];simp only[Oper.uponIn_value];refine⟨fun _ _=>trivial,?_⟩;have r2:((⟨none,.defer ⟨.value (.tmp t3),#[],tys⟩,t2,s2,f2,none⟩:Oper).semAt (rd none).round (a.put (some t3) (.func (.func g) #[] #[.pointer (some ⟨b,0,none⟩)])).eval).run P w=.ok (.defer { target:=.fn (.func g) #[.pointer (some ⟨b,0,none⟩)],args:= #[]}) w:=by
  simp[Oper.semAt,execOp,go_sem,Act.eval,Act.put,hget];try rfl
 rw[r2];simp only[Oper.uponIn_defer];exact h
theorem Aa {F:Nat->Prop}{w0:Bs}{ro:Option Nat}{nd N:Nat}(hm:P.follows .mixedOrders=true)(hts:ts.ok P)(hG:ConsOk P G){id:Nat}{ops:Array Oper}(hc:ca N (.region id ops false)=true){st:St}{Q:St->Prop}{L:mL}(hx:exec ts G L (.region id ops false) st (fun e st=>e=.normal/\Q st))
  {own:Own} {a:Act} {w:World} (hr:StRel F w0 N own st a w):(Code.region id ops false).wpIn (rd ro) nd P (fun e a w=>e=.normal/\∃ own st,StRel F w0 N own st a w/\Q st) a w:=by
 have hx':sN (ri ts G ops false st) (fun e st=>e=.normal/\Q st) (L (id+2000000) st):=hx;have key:∀ Q:Ex->St->Prop,(∀ x st,¬Q (.pan x) st)->ri ts G ops false st Q->(Code.region id ops false).wpIn (rd ro) nd P (fun e a w=>e=.normal/\∃ own st,StRel F w0 N own st a w/\Q .normal st) a w:=by
  intro Q hpan hx';simp only[ca,Bool.and_eq_true]at hc;obtain⟨h1,h2⟩:=hc;have hrok:=DC h1;obtain⟨l⟩:=ops;have hx':eP ts G l l st (fun st'=>Q .normal (nf l st')) (fun x st'=>Q (.pan x) st'):=hx';refine wpIn_region_list ?_;exact zD (K:=fun st'=>Q .normal (nf l st')) (Z:=fun x st'=>Q (.pan x) st') hts hG hrok (fun x own st a w h1 h2=>(hpan x _ h2).elim) l 0 own st a w rfl (hr.start l fun k hk=>by omega) hx' fun own st a w hi hk=>⟨rfl,own,_,StRel.finish hi,hk⟩
 cases hlc:L (id+2000000) st with
 |none=>
  rw[hlc]at hx';refine wpIn_mono (key (fun e st=>e=.normal/\Q st) (fun x st h=>(by cases h.1)) hx') fun e a w ⟨h1,own,st,h2,h3⟩ =>⟨h1,own,st,h2,h3.2⟩
 |some lc=>
  rw[hlc]at hx';refine wpIn_mono (key (M7 lc fun e st=>e=.normal/\Q st) (fun x st h=>(by have h:Ex.pan x=.normal/\Q st:=h;cases h.1)) hx'.1) fun e a w ⟨h1,own,st,h2,r,h3,h4,h5⟩ =>⟨h1,own,_,h2.subJ h4 h5,(hx'.2 r h3).2⟩
def Cq:Ob->Prop
 | .cells [_] =>True
 |_=>False
theorem Ea {o:Ob}(h:Cq o):∃ y,o=.cells [y]:=by
 unfold Cq at h;split at h
 ·exact⟨_,rfl⟩
 ·exact h.elim
def GD (rs:List ResultVar)(ts:Tis)(post:SV->Prop)(id:Nat)(st:St):Option SV->Prop
 |some s=>Cq (ae st.h id)/\gS st.h=false/\c9 post (pi rs ts ⟨st.t,bf st.h id (.cells [s])⟩)
 |none=>False
def GF (C:Value->Option SV)(rs:List ResultVar)(ts:Tis)(post:SV->Prop)(id:Nat):Ex->St->Prop
 | .exit _,_=>False
 | .normal,st=>c9 post (pi rs ts st)
 | .ret,st=>c9 post (pi rs ts st)
 | .pan x,st=>GD rs ts post id st (C x)
@[go_sem] theorem Kb {y:SV}:Cq (.cells [y])=True:=(rfl)
@[go_sem] theorem My {rs:List ResultVar}{ts:Tis}{post:SV->Prop}{id:Nat}{st:St}{s:SV}:GD rs ts post id st (some s)=(Cq (ae st.h id)/\gS st.h=false/\c9 post (pi rs ts ⟨st.t,bf st.h id (.cells [s])⟩)):=(rfl)
section
variable {C:Value->Option SV}{rs:List ResultVar}{ts:Tis}{post:SV->Prop}{id:Nat}{st:St}{x:Value}
@[go_sem] theorem IE:GF C rs ts post id .normal st=c9 post (pi rs ts st):=(rfl)
@[go_sem] theorem Oi:GF C rs ts post id .ret st=c9 post (pi rs ts st):=(rfl)
@[go_sem] theorem Oj:GF C rs ts post id (.pan x) st=GD rs ts post id st (C x):=(rfl)
end
def Cr:Code->Code| .seq a _=>a|c=>c
def Ab:Code->Code| .seq _ b=>b|c=>c
def regI:Code->Nat| .region i _ _=>i|_=>0
def Ok (i:Nat):Code->Oper| .region _ ops _=>ops.getD i default|_=>default
theorem Kc {g:FuncId}{RC:Value->Option SV}(hrec:ID P g RC)(pks:List Pk)(hm:P.follows .mixedOrders=true)(hts:ts.ok P)(hG:ConsOk P G){f:FuncId}{fn:Func}{c0 c1:Code}{i1 t3 q:Nat}{o1 o2:Oper}{tys:Array TypeId}
  (hf:P.funcs[f]? =some fn) (hb:fn.body=some (.seq c0 (.seq (.region i1 #[o1,o2] false) c1))) (hname:(fn.name== "runtime.NumGoroutine")=false)
  (ho1:o1.dst=some t3/\o1.op=.makeFunc (.func g) #[] #[.tmp q]/\o1.guard=none) (ho2:o2.dst=none/\o2.op=.defer ⟨.value (.tmp t3),#[],tys⟩/\o2.guard=none) (ht3:t3<fn.ntmps)
  (hc0:ca fn.ntmps c0=true) (hc1:ca fn.ntmps c1=true) {C:List SV->Option Con}
  (h:∀ l con,C l=some con->bb con->l.length<=fn.ntmps/\∃ L L' id,ap P none fn.ntmps L c0/\ap P none fn.ntmps L' c1/\exec ts G L c0 ⟨iJ 0 l,[]⟩ (fun e st=>e=.normal/\lk q st.t=.ptr id 0/\Cq (ae st.h id)/\
   exec ts G L' c1 ⟨(t3,.any)::st.t,st.h⟩ (GF RC fn.results.toList ts (fun s=>cH con (og pks s)) id))):FnOk P f C:=by
 refine⟨fun l con _ args w=>?_,fun l con hcon hpre F w vs hF hvs=>?_⟩
 ·have hn:¬fn.name= "runtime.NumGoroutine":=by simpa using hname
  simp[callFunc,hf,hn,hb]
 ·obtain⟨hlen,L,L',id,hl,hl',hx⟩:=h l con hcon hpre;refine kQ (n:=0) (callsIn_of_wp_marks hf hb trivial ?_);have hr:StRel F { w:=w,own:=bX} fn.ntmps bX ⟨iJ 0 l,[]⟩ { tmps:=vs++Array.replicate (fn.ntmps - vs.size) undef,defers:=[]} w:=
   ⟨by have:=hvs.1;simp;omega,Dfr.nil,pK hF,Fr.refl _,fun t=>jQ hvs _ t⟩
  refine wpIn_seq (wpIn_mono (kp hm hts hG c0 hc0 hl F _ _ hx bX _ w hr) ?_);intro e a1 w1 hq;cases e with
  |normal=>
   obtain⟨F1,own1,st1,hF1,hst1,_,hlk,_,hx1⟩:=hq;have hsq:=hst1.slots q;rw[hlk]at hsq;generalize hv:a1.tmps.getD q undef=pv at hsq;cases hsq with
   | @ptr _ _ b hd ho hp=>
   show(Code.seq (.region i1 #[o1,o2] false) c1).wpIn (rd none) 0 P _ a1 w1;have hsz:=hst1.size;refine wpIn_seq (wQ ho1 ho2 hv (by rw[hsz];exact ht3) ?_);show c1.wpIn (rd none) 0 P _ _ w1;obtain⟨ms,Ds,k0,k1,k2,k3⟩:=hst1.defers;have k0':a1.defers=ms:=by rw[k0];exact List.append_nil _
   let d:Deferred:= { target:=.fn (.func g) #[.pointer (some ⟨b,0,none⟩)],args:= #[]}
   let B:Bs:= { w:=w1,own:=own1,ds:=d::a1.defers}
   have hr2:StRel F1 B fn.ntmps own1 ⟨(t3,.any)::st1.t,st1.h⟩ { tmps:=a1.tmps.setIfInBounds t3 (.func (.func g) #[] #[.pointer (some ⟨b,0,none⟩)]),defers:=d::a1.defers} w1:=by
    refine⟨by simpa using hsz,Dfr.nil,hst1.hp,Fr.refl B,fun t=>?_⟩;rw[jo];by_cases ht:t3=t
    ·rw[if_pos ht];exact .any _
    ·rw[if_neg ht];have:=hst1.slots t;simp only[Array.getD_eq_getD_getElem?,Array.getElem?_setIfInBounds,if_neg ht];simpa[Array.getD_eq_getD_getElem?]using this
   have hbd:∀ D∈Ds,¬ ∃ id hd,own1 id=some hd/\D∈hd.bs:=fun D hD ⟨i,hd,e,hm⟩ =>hst1.hp.apart i hd D e hm (k3 D hD).2.1;have fin:∀ F2 own2 st2 (a2:Act) w2,(∀ b,F1 b->F2 b)->StRel F2 B fn.ntmps own2 st2 a2 w2->c9 (fun s=>cH con (og pks s)) (pi fn.results.toList ts st2)->
     LeavesInM (rd none) 0 P fn a2.tmps (fun e w'=>(∃ s u own',cH con s/\e=.returned u/\Handed F w own' w' s u/\Below w.heap.size w w')\/(∃ x,iu con x/\e=.panicked [{ v:=x,recovered:=false}]/\Below w.heap.size w w')) a1.defers .returning w2:=by
    intro F2 own2 st2 a2 w2 hF2 hst2 hdone;have hB:StRel F2 { w:=w,own:=bX} fn.ntmps own2 st2 { a2 with defers:=[]} w2:=⟨hst2.size,Dfr.nil,hst2.hp,hst1.fr.trans ⟨hst2.fr.ids,hst2.fr.base,hst2.fr.os,hst2.fr.tape,hst2.fr.output,hst2.fr.size,hst2.fr.block⟩,hst2.slots⟩;have hkeep:∀ D∈Ds,w2.heap[D]? =some (.deferred (some [])):=fun D hD=>by
     rw[hst2.fr.block D ⟨iK (k3 D hD).2.2,hbd D hD⟩];exact(k3 D hD).2.2
    rw[k0',<-List.append_nil ms];refine qK (by simp) Ds ms w2 k1 k2 hkeep fun w4 hs=>?_;have hst4:=(hB.shut (Ds:=Ds) (fun D hD=>⟨(k3 D hD).1,hF2 D (k3 D hD).2.1,hkeep D hD⟩) hs).less (fun c hc=>hF2 c (hF1 c hc)) rfl;simp only[pi]at hdone;cases hres:jh (ir ts st2 fn.results.toList)with
    |none=>rw[hres]at hdone;exact hdone.elim
    |some s=>
     obtain⟨u,e1,e2⟩:=pJ (P:=P) hts hst4 hres;rw[hres]at hdone;exact⟨u,e1,.inl ⟨_,u,bX,hdone,rfl,nA hst4.hp.foreign (yu (nS hst4.hp 4 s u e2)),jP hst4.fr⟩⟩
   have hinv:∀ w2:World,(invoke (.fn (.func g) #[.pointer (some ⟨b,0,none⟩)]) #[]).run P w2=.ok (.enter g #[.pointer (some ⟨b,0,none⟩)]) w2:=fun w2=>by simp[invoke,go_sem,hrec.1]
   refine wpIn_mono (kp hm hts hG c1 hc1 hl' F1 _ _ hx1 own1 _ w1 hr2) ?_;have idle:∀ (a':Act) (w':World) F2 own2 st2,(∀ b,F1 b->F2 b)->StRel F2 B fn.ntmps own2 st2 a' w'->c9 (fun s=>cH con (og pks s)) (pi fn.results.toList ts st2)->
     LeavesInM (rd none) 0 P fn a'.tmps (fun e w'=>(∃ s u own',cH con s/\e=.returned u/\Handed F w own' w' s u/\Below w.heap.size w w')\/(∃ x,iu con x/\e=.panicked [{ v:=x,recovered:=false}]/\Below w.heap.size w w')) a'.defers .returning w':=by
    intro a' w' F2 own2 st2 hF2 hst2 hdone;refine ia hst2 (by simp) fun w2 hst3=>?_;refine⟨by simp,.inr ⟨fun h=>(by cases h),.func g,#[.pointer (some ⟨b,0,none⟩)],g,#[.pointer (some ⟨b,0,none⟩)],rfl,hinv w2,fun _ _=>trivial,?_⟩⟩;refine(hrec.2.1 ⟨b,0,none⟩ w2).mono ?_;rintro e u' w3 ⟨⟨v,rfl⟩,rfl,rfl⟩;exact fin F2 own2 st2 { a' with defers:=B.ds} _ hF2 hst3 hdone
   intro e a' w' hq;cases e with
   |normal=>obtain⟨F2,own2,st2,h0,h1,h2⟩:=hq;exact idle a' w' F2 own2 st2 h0 h1 h2
   |ret=>obtain⟨F2,own2,st2,h0,h1,h2⟩:=hq;exact idle a' w' F2 own2 st2 h0 h1 h2
   |exit jd=>obtain⟨F2,own2,st2,h0,h1,h2⟩:=hq;exact h2.elim
   |panic ch=>
    obtain⟨x,F2,own2,st2,h0,h1,hm,rfl⟩:=hq;change GD fn.results.toList ts _ id st2 (RC x)at hm;cases m1:RC x with
    |none=>rw[m1]at hm;exact hm.elim
    |some s=>
    rw[m1]at hm;obtain⟨hm2,m4,m3⟩:=hm;obtain⟨y,m2⟩:=Ea hm2;refine ia h1 (by simp) fun w2 hst3=>?_;refine⟨by simp,.inr ⟨fun h=>(by cases h),.func g,#[.pointer (some ⟨b,0,none⟩)],g,#[.pointer (some ⟨b,0,none⟩)],rfl,hinv w2,fun _ _=>trivial,?_⟩⟩;obtain⟨hd2,e2,l2⟩:=hst3.fr.ids id hd ho;refine(hrec.2.2 x s m1 F2 own2 w2 st2.h id hd2 b y m4 hst3.hp m2 e2 (l2.1.trans hp)).mono ?_;rintro e u' w3 ⟨⟨v,rfl⟩,rfl,own3,q1,q2⟩;exact fin F2 own3 ⟨st2.t,_⟩ { a' with defers:=B.ds} w3 h0 (hst3.moved q1 q2) m3
   |_=>exact hq.elim
  |ret=>obtain⟨F1,own,st,h0,h1,h2,_⟩:=hq;cases h2
  |exit jd=>obtain⟨F1,own,st,h0,h1,h2,_⟩:=hq;cases h2
  |panic ch=>obtain⟨x,F1,own,st,h0,h1,⟨h2,_⟩,_⟩:=hq;cases h2
  |_=>exact hq.elim
end
end Go.Sx
end
