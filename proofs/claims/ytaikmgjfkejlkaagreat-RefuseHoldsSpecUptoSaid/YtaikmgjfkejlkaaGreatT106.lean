/- Part of the proof of the law RefuseHoldsSpec (the Upto form). -/
import Derived.Attr
import Derived.Test.YtaikmgjfkejlkaaGreatT105
import Derived.RangeFuncIn
import Derived.RecoverIn
import Derived.Laws.Pointers
import Derived.Test.YtaikmgjfkejlkaaGreatProg
set_option linter.all false
set_option maxHeartbeats 4000000
set_option maxRecDepth 100000
section
namespace Go.Sx
def To (k:TI->OR):Option TI->OR
 |some i=>k i|none=>.bad
section
variable {ts:Tis}{G:Cons}{L:yS}{t:List (Nat×SV)}{h:List Ob}{Q:Ex->St->Prop}{K:St->Prop}{Z:Value->St->Prop}{ops rest:List Oper}{nx:Nat}
variable {st st':St}
@[congr] theorem afI {c:Code}(e:st=st'):exec ts G L c st Q=exec ts G L c st' Q:=by rw[e]
@[congr] theorem abI (e:st=st'):kH ts G ops rest st K Z=kH ts G ops rest st' K Z:=by rw[e]
variable {fps:List Fp}
@[congr] theorem aek{i b:Nat}{avP:List Fp}(e0:fps=avP)(e:st=st'):kK ts G ops K Z rest i b fps st=kK ts G ops K Z rest i b avP st':=by rw[e,e0]
variable {d:Option Nat}{r r':OR}
@[congr] theorem ael(e:r=r'):ow G d st K Z r=ow G d st K Z r':=by rw[e]
variable {g:Nat×Bool}
@[congr] theorem aem(e:r=r'):stepG G ops g d st K Z r=stepG G ops g d st K Z r':=by rw[e]
variable {p:Prop}{r r':Option Dr}
@[congr] theorem acB{next:List Nat->List Up->St->Prop}(e:r=r'):BA d st next p r=BA d st next p r':=by rw[e]
@[congr] theorem acC{next:List Nat->List Up->St->Prop}(e:r=r'):zu ops g d st next p r=zu ops g d st next p r':=by rw[e]
variable {x:(Ex->St->Prop)->Prop}{c c':Option at8}
@[congr] theorem aen{y:(Ex->St->Prop)->Prop}{Q:Ex->St->Prop}{s s':SV}(e:s=s')(e2:c=c'):Hh x y Q s c=Hh x y Q s' c':=by rw[e,e2]
@[congr] theorem aeo{Q:Ex->St->Prop}(e:c=c'):Hi x Q c=Hi x Q c':=by rw[e]
@[congr] theorem aep(e:c=c'):un Q c=un Q c':=by rw[e]
def aic:exec ts G L .skip ⟨t,h⟩ Q=Q .normal ⟨t,h⟩:=(rfl)
def aeq {b:Nat}{a:Array Oper}{d:Bool}:exec ts G L (.region b a d) ⟨t,h⟩ Q=Hi (E7 ts G a d ⟨t,h⟩) Q (L (b+2000000) ⟨t,h⟩):=(rfl)
def aer:E7 ts G ops.toArray false ⟨t,h⟩ Q=kH ts G ops ops ⟨t,h⟩ (λa=>Q .normal (Cr ops a)) (λx a=>Q (.pan x) a):=(rfl)
attribute[go_sem]aic aeq aer
attribute[go_sem]SV.i
@[go_sem] def afJ:= @Hi.eq_1
variable {d:St}
def afK:inC d Q .normal ⟨t,h⟩=(h=d.h/\auQ t d.t):=(rfl)
def ana{a:St}{x:Value}:inC d Q (.pan x) a=Q (.pan x) a:=(rfl)
attribute[go_sem]afK ana
variable {a:Code}
def akv{b:Code}:exec ts G L (.seq a b) ⟨t,h⟩ Q=exec ts G L a ⟨t,h⟩ (Ex.then (λc=>exec ts G L b c Q) Q):=(rfl)
def aid {c:Operand}{x y:Code}:exec ts G L (.cond c x y) ⟨t,h⟩ Q=Hh (exec ts G L x ⟨t,h⟩) (exec ts G L y ⟨t,h⟩) Q (raw t c) (L (Ye c) ⟨t,h⟩):=(rfl)
attribute[go_sem]akv aid
@[go_sem] def afL:= @Hh.eq_1
@[go_sem] theorem akw{y:(Ex->St->Prop)->Prop}{s:SV}:Hh x y Q s (some (JC d))=(Cs (x (inJ d)) (y (inJ d)) s/\Q .normal d):=by
 have e:(λe st=>∃ r,(JC d).post r/\inJ ((JC d).out r) e st)=inJ d:=by
  funext e st
  exact propext ⟨λ⟨_,_,h⟩ =>h,λh=>⟨(),trivial,h⟩⟩
 show Yf x y Q s (JC d)=_;unfold Yf;rw[e];exact propext ⟨λh=>⟨h.1,h.2 () trivial⟩,λh=>⟨h.1,λ_ _=>h.2⟩⟩
@[go_sem] def akx:= @Ye.eq_1
@[go_sem]def afM:inJ d .normal ⟨t,h⟩=(h=d.h/\auQ t d.t):=(rfl)
@[go_sem] def aky:= @auQ.eq_1
@[go_sem] def aie:= @auQ.eq_2
def YN {a:Nat}{c:Code}:exec ts G L (.block a (.loop c)) ⟨t,h⟩ Q=un Q (L a ⟨t,h⟩):=(rfl)
def XH{c:Nat}{f:Operand}{d:Array Tmp}{b:Code}:exec ts G L (.block c (.rangeFunc f d a b)) ⟨t,h⟩ Q=un Q (L c ⟨t,h⟩):=(rfl)
def YO{c:Nat}{b:Code}:exec ts G L (.block c (.seq a b)) ⟨t,h⟩ Q=exec ts G L (.seq a b) ⟨t,h⟩ (Ex.block c Q):=(rfl)
def XI{d:Nat}{c:Operand}{b:Code}:exec ts G L (.block d (.cond c a b)) ⟨t,h⟩ Q=exec ts G L (.cond c a b) ⟨t,h⟩ (Ex.block d Q):=(rfl)
attribute[go_sem]YN XH YO XI
variable {j:Nat}
def UY{b:Nat}{a:Array Oper}{d:Bool}:exec ts G L (.block b (.region j a d)) ⟨t,h⟩ Q=exec ts G L (.region j a d) ⟨t,h⟩ (Ex.block b Q):=(rfl)
def XJ {a:Nat}:exec ts G L (.block a .skip) ⟨t,h⟩ Q=exec ts G L .skip ⟨t,h⟩ (Ex.block a Q):=(rfl)
def aif {a:Nat}:exec ts G L (.exit a) ⟨t,h⟩ Q=Q (.exit a) ⟨t,h⟩:=(rfl)
def akz:exec ts G L .ret ⟨t,h⟩ Q=Q .ret ⟨t,h⟩:=(rfl)
def WE {a:Nat}{c:Code}:exec ts G L (.block a (.scope c)) ⟨t,h⟩ Q=exec ts G L (.scope c) ⟨t,h⟩ (Ex.block a Q):=(rfl)
def WF {a l:Nat}:exec ts G L (.block a (.label l)) ⟨t,h⟩ Q=exec ts G L (.label l) ⟨t,h⟩ (Ex.block a Q):=(rfl)
def afN {c:Code}:exec ts G L (.scope c) ⟨t,h⟩ Q=exec ts G L c ⟨t,h⟩ Q:=(rfl)
def afO {l:Nat}:exec ts G L (.label l) ⟨t,h⟩ Q=Q .normal ⟨t,h⟩:=(rfl)
attribute[go_sem]UY XJ aif akz WE WF afN afO
@[go_sem] def aes:= @Ex.then.eq_1
def akA {a:St}:Ex.then K Q .ret a=Q .ret a:=(rfl)
def aig{a:St}:Ex.then K Q (.exit j) a=Q (.exit j) a:=(rfl)
def acD {a:St}{b:Nat}:Ex.block b Q .normal a=Q .normal a:=(rfl)
def aih {a:St}{b:Nat}:Ex.block b Q .ret a=Q .ret a:=(rfl)
def akB {a:St}{v:Value}:Ex.then K Q (.pan v) a=Q (.pan v) a:=(rfl)
def aii {a:St}{b:Nat}{v:Value}:Ex.block b Q (.pan v) a=Q (.pan v) a:=(rfl)
attribute[go_sem]akA aig acD aih akB aii
@[go_sem] def afP:= @Ex.block.eq_1
@[go_sem] def anb:= @Cs.eq_1
variable {α:Type}{pre:Prop}{post:α->Prop}
def afQ{a:α->Ex}{b:α->St}:un Q (some ⟨α,pre,post,a,b⟩)=(pre/\∀ r,post r->Q (a r) (b r)):=(rfl)
def afR:E7 ts G ops.toArray true ⟨t,h⟩ Q=kK ts G ops (λa=>Q .normal (Cr ops a)) (λx a=>Q (.pan x) a) ops 0 0 [] ⟨t,h⟩:=(rfl)
def aet:kH ts G ops [] ⟨t,h⟩ K Z=K ⟨t,h⟩:=(rfl)
attribute[go_sem]afQ afR aet
variable {d:Option Nat}{ty:TypeId}{pos:String}{af:Array Edge}
def acE{a:Op}:kH ts G ops (⟨d,a,ty,pos,af,none⟩::rest) ⟨t,h⟩ K Z=ow G d ⟨t,h⟩ (λb=>kH ts G ops rest b K Z) Z (opS ⟨ts,ops,none,⟨t,h⟩,h.length⟩ a):=(rfl)
def afS{i b:Nat}{a:Op}:kK ts G ops K Z (⟨d,a,ty,pos,af,none⟩::rest) i b fps ⟨t,h⟩=BA d ⟨t,h⟩ (λe f c=>kK ts G ops K Z rest (i+1) b (fps++[fpU a (fpO ⟨ts,ops,none,⟨t,h⟩,h.length⟩ a) e f]) c) (va ops b fps/\He ops i=true/\ow G d ⟨t,h⟩ (λc=>kK ts G ops K Z rest (i+1) (i+1) [] c) Z (opS ⟨ts,ops,none,⟨t,h⟩,h.length⟩ a)) (lh G h h.length (opS ⟨ts,ops,none,⟨t,h⟩,h.length⟩ a)):=(rfl)
def acF{a:Op}:kH ts G ops (⟨d,a,ty,pos,af,some g⟩::rest) ⟨t,h⟩ K Z=stepG G ops g d ⟨t,h⟩ (λb=>kH ts G ops rest b K Z) Z (opS ⟨ts,ops,some g,⟨t,h⟩,h.length⟩ a):=(rfl)
def afT{i b:Nat}{a:Op}:kK ts G ops K Z (⟨d,a,ty,pos,af,some g⟩::rest) i b fps ⟨t,h⟩=zu ops g d ⟨t,h⟩ (λe f c=>kK ts G ops K Z rest (i+1) b (fps++[fpU a (fpO ⟨ts,ops,some g,⟨t,h⟩,h.length⟩ a) e f]) c) (va ops b fps/\He ops i=true/\stepG G ops g d ⟨t,h⟩ (λc=>kK ts G ops K Z rest (i+1) (i+1) [] c) Z (opS ⟨ts,ops,some g,⟨t,h⟩,h.length⟩ a)) (lh G h h.length (opS ⟨ts,ops,some g,⟨t,h⟩,h.length⟩ a)):=(rfl)
def aij{i b:Nat}:kK ts G ops K Z [] i b fps ⟨t,h⟩=(va ops b fps/\K ⟨t,h⟩):=(rfl)
attribute[go_sem]acE afS acF afT aij
variable {d:Nat}
@[go_sem]def aik{s:SV}:ow G (some d) ⟨t,h⟩ K Z (.val s)=K ⟨(d,s)::t,h⟩:=(rfl)
variable {c:Prop}
def ail{s:SV}:ow G (some d) ⟨t,h⟩ K Z (.chk c s)=(c/\K ⟨(d,s)::t,h⟩):=(rfl)
def aim{s:SV}:ow G (some d) ⟨t,h⟩ K Z (.asm c s)=(c->K ⟨(d,s)::t,h⟩):=(rfl)
def afU{s:SV}:ow G (some d) ⟨t,h⟩ K Z (.auh s)=K ⟨(d,s)::t,h⟩:=(rfl)
attribute[go_sem]ail aim afU
variable {a:Prop}
def ain{s:SV}{b:List Up}:ow G (some d) ⟨t,h⟩ K Z (.eff c a b s)=(c/\(a->K ⟨(d,s)::t,bu h b⟩)):=(rfl)
def aio:stepG G ops g (some d) ⟨t,h⟩ K Z .bad=(zr ops t ops.length g/\K ⟨(d,.gd g.1 g.2 .any)::t,h⟩):=(rfl)
def afV:stepG G ops g none ⟨t,h⟩ K Z .bad=(zr ops t ops.length g/\K ⟨t,h⟩):=(rfl)
def aip{s:SV}:stepG G ops g (some d) ⟨t,h⟩ K Z (.val s)=K ⟨(d,.gd g.1 g.2 s)::t,h⟩:=(rfl)
def aiq{s:SV}:stepG G ops g (some d) ⟨t,h⟩ K Z (.chk c s)=((eb ops t ops.length g->c)/\K ⟨(d,.gd g.1 g.2 s)::t,h⟩):=(rfl)
def air{s:SV}:stepG G ops g (some d) ⟨t,h⟩ K Z (.asm c s)=K ⟨(d,.gd g.1 g.2 s)::t,h⟩:=(rfl)
def afW{s:SV}:stepG G ops g (some d) ⟨t,h⟩ K Z (.auh s)=K ⟨(d,.gd g.1 g.2 s)::t,h⟩:=(rfl)
def ais{s:SV}{b:List Up}:stepG G ops g (some d) ⟨t,h⟩ K Z (.eff c a b s)=((eb ops t ops.length g->c/\(a->K ⟨(d,.gd g.1 g.2 s)::t,bu h b⟩))/\(gN ops t ops.length g->K ⟨(d,.gd g.1 g.2 .any)::t,h⟩)):=(rfl)
attribute[go_sem]ain aio afV aip aiq air afW ais
variable {c:Option atB}{np:Bool}
def ait{a:List Nat}{s:SV}:zt np a (some d) ⟨t,h⟩ K Z c (some (.det p s))=bif np||jQ 3 s then(p/\K ⟨(d,jN 3 h.length s)::t,h++a6 3 s⟩)else Cq a (some d) ⟨t,h⟩ K Z c:=(rfl)
def aiu{b:List Nat}{a:α->SV}:zt np b (some d) ⟨t,h⟩ K Z c (some (.rel α pre post a))=(pre/\(bif np then ∀ r,post r->K ⟨(d,jN 3 h.length (a r))::t,h++a6 3 (a r)⟩else False)):=(rfl)
attribute[go_sem]ait aiu
variable {x:Value}
@[go_sem]def aiv{b:List Nat}{s:SV}{a:Bool}:zt np b (some d) ⟨t,h⟩ K Z c (some (.may a s x))=(bif np||jQ 3 s then(a=true->K ⟨(d,jN 3 h.length s)::t,h++a6 3 s⟩)/\(a=false->Z x ⟨aug t,h⟩)else False):=(rfl)
variable {h':List Ob}
def akC{a:List Nat}{s:SV}:Nk a (some d) ⟨t,h⟩ K Z (.ret s h')=K ⟨(d,ren (um a h.length) 3 s)::t,ov a h.length h 0 h'⟩:=(rfl)
def akD{a:List Nat}{s:SV}:V_ a g (some d) ⟨t,h⟩ K Z (.ret s h')=K ⟨(d,.gd g.1 g.2 (ren (um a h.length) 3 s))::t,ov a h.length h 0 h'⟩:=(rfl)
attribute[go_sem]akC akD
@[go_sem] def aeu:= @Hf.eq_2
variable {o:atB}
def aev{a:List Nat}:Hf a ops g (some d) ⟨t,h⟩ K Z (some o)=((eb ops t ops.length g->o.pre/\∀ r,o.post r->V_ a g (some d) ⟨t,h⟩ K Z (o.res r))/\(gN ops t ops.length g->K ⟨(d,.gd g.1 g.2 .any)::t,h⟩)):=(rfl)
def aiw{a:List Nat}{s:SV}:Hg np a ops g (some d) ⟨t,h⟩ K Z c (some (.det p s))=((eb ops t ops.length g->p)/\(bif(np||jQ 3 s)&&(a6 3 s).isEmpty then K ⟨(d,.gd g.1 g.2 s)::t,h⟩else False)):=(rfl)
attribute[go_sem]aev aiw
variable {res:α->Bool×Res}
def aix{a:Nat}:SE a (some d) ⟨t,h⟩ K (some ⟨α,pre,post,res⟩)=(pre/\∀ r,post r->K ⟨(d,.b (res r).1)::t,cO h a (.ab (res r).2)⟩):=(rfl)
def aiy{a:Nat}:PK a ops g (some d) ⟨t,h⟩ K (some ⟨α,pre,post,res⟩)=((eb ops t ops.length g->pre/\∀ r,post r->K ⟨(d,.gd g.1 g.2 (.b (res r).1))::t,cO h a (.ab (res r).2)⟩)/\(gN ops t ops.length g->K ⟨(d,.gd g.1 g.2 .any)::t,h⟩)):=(rfl)
attribute[go_sem]aix aiy
variable {K0 c:Prop}
def aoS{e:List Nat->List Up->St->Prop}{s:SV}{b:List Up}{f:List Nat}:BA (some d) ⟨t,h⟩ e K0 (some ⟨c,a,s,b,f⟩)=(c/\(a->e f b ⟨(d,s)::t,bu h b⟩)):=(rfl)
def aoT{b:List Nat->List Up->St->Prop}{s:SV}{e:List Up}{f:List Nat}:zu ops g (some d) ⟨t,h⟩ b K0 (some ⟨c,a,s,e,f⟩)=bif e.isEmpty then(eb ops t ops.length g->c)/\b f [] ⟨(d,.gd g.1 g.2 s)::t,h⟩else ¬ (eb ops t ops.length g/\gN ops t ops.length g)/\(eb ops t ops.length g->c/\(a->b f e ⟨(d,.gd g.1 g.2 s)::t,bu h e⟩))/\(gN ops t ops.length g->b f [] ⟨(d,.gd g.1 g.2 s)::t,h⟩):=(rfl)
def afX {s:SV}:ow G none ⟨t,h⟩ K Z (.val s)=K ⟨t,h⟩:=(rfl)
def afY{s:SV}:ow G none ⟨t,h⟩ K Z (.chk c s)=(c/\K ⟨t,h⟩):=(rfl)
def afZ{s:SV}:ow G none ⟨t,h⟩ K Z (.asm c s)=(c->K ⟨t,h⟩):=(rfl)
def aew {s:SV}:ow G none ⟨t,h⟩ K Z (.auh s)=K ⟨t,h⟩:=(rfl)
def af0{s:SV}{b:List Up}:ow G none ⟨t,h⟩ K Z (.eff c a b s)=(c/\(a->K ⟨t,bu h b⟩)):=(rfl)
def af1{s:SV}:stepG G ops g none ⟨t,h⟩ K Z (.val s)=K ⟨t,h⟩:=(rfl)
def af2{s:SV}:stepG G ops g none ⟨t,h⟩ K Z (.chk c s)=((eb ops t ops.length g->c)/\K ⟨t,h⟩):=(rfl)
def af3{s:SV}:stepG G ops g none ⟨t,h⟩ K Z (.asm c s)=K ⟨t,h⟩:=(rfl)
def aex{s:SV}:stepG G ops g none ⟨t,h⟩ K Z (.auh s)=K ⟨t,h⟩:=(rfl)
def af4{s:SV}{b:List Up}:stepG G ops g none ⟨t,h⟩ K Z (.eff c a b s)=((eb ops t ops.length g->c/\(a->K ⟨t,bu h b⟩))/\(gN ops t ops.length g->K ⟨t,h⟩)):=(rfl)
attribute[go_sem]aoS aoT afX afY afZ aew af0 af1 af2 af3 aex af4
variable {c:Option atB}
def af5{a:List Nat}{s:SV}:zt np a none ⟨t,h⟩ K Z c (some (.det p s))=bif np||jQ 3 s then(p/\K ⟨t,h++a6 3 s⟩)else Cq a none ⟨t,h⟩ K Z c:=(rfl)
def af6{b:List Nat}{a:α->SV}:zt np b none ⟨t,h⟩ K Z c (some (.rel α pre post a))=(pre/\(bif np then ∀ r,post r->K ⟨t,h++a6 3 (a r)⟩else False)):=(rfl)
def af7{b:List Nat}{s:SV}{a:Bool}:zt np b none ⟨t,h⟩ K Z c (some (.may a s x))=(bif np||jQ 3 s then(a=true->K ⟨t,h++a6 3 s⟩)/\(a=false->Z x ⟨aug t,h⟩)else False):=(rfl)
def aiz{a:List Nat}{s:SV}:Nk a none ⟨t,h⟩ K Z (.ret s h')=K ⟨t,ov a h.length h 0 h'⟩:=(rfl)
def aiA{a:List Nat}{s:SV}:V_ a g none ⟨t,h⟩ K Z (.ret s h')=K ⟨t,ov a h.length h 0 h'⟩:=(rfl)
def acG{a:List Nat}:Hf a ops g none ⟨t,h⟩ K Z (some o)=((eb ops t ops.length g->o.pre/\∀ r,o.post r->V_ a g none ⟨t,h⟩ K Z (o.res r))/\(gN ops t ops.length g->K ⟨t,h⟩)):=(rfl)
def af8{a:List Nat}{s:SV}:Hg np a ops g none ⟨t,h⟩ K Z c (some (.det p s))=((eb ops t ops.length g->p)/\(bif(np||jQ 3 s)&&(a6 3 s).isEmpty then K ⟨t,h⟩else False)):=(rfl)
def af9{a:Nat}:SE a none ⟨t,h⟩ K (some ⟨α,pre,post,res⟩)=(pre/\∀ r,post r->K ⟨t,cO h a (.ab (res r).2)⟩):=(rfl)
def af_{a:Nat}:PK a ops g none ⟨t,h⟩ K (some ⟨α,pre,post,res⟩)=((eb ops t ops.length g->pre/\∀ r,post r->K ⟨t,cO h a (.ab (res r).2)⟩)/\(gN ops t ops.length g->K ⟨t,h⟩)):=(rfl)
def anc{d:List Nat->List Up->St->Prop}{c:Prop}{s:SV}{b:List Up}{e:List Nat}:BA none ⟨t,h⟩ d K0 (some ⟨c,a,s,b,e⟩)=(c/\(a->d e b ⟨t,bu h b⟩)):=(rfl)
def ane{b:List Nat->List Up->St->Prop}{c:Prop}{s:SV}{d:List Up}{e:List Nat}:zu ops g none ⟨t,h⟩ b K0 (some ⟨c,a,s,d,e⟩)=bif d.isEmpty then(eb ops t ops.length g->c)/\b e [] ⟨t,h⟩else ¬ (eb ops t ops.length g/\gN ops t ops.length g)/\(eb ops t ops.length g->c/\(a->b e d ⟨t,bu h d⟩))/\(gN ops t ops.length g->b e [] ⟨t,h⟩):=(rfl)
attribute[go_sem]af5 af6 af7 aiz aiA acG af8 af9 af_ anc ane
@[go_sem] def aey:= @BA.eq_2
@[go_sem] def aez:= @zu.eq_2
variable {d:Option Nat}{f:FuncId}{args:List SV}
def aga:ow G d ⟨t,h⟩ K Z (.call f args)=zt (args.all (dC 3)) (reach h 64 (args.flatMap (fV 3)) []) d ⟨t,h⟩ K Z (G.o f (args.map (ren (inN (reach h 64 (args.flatMap (fV 3)) [])) 6)) (wM h (reach h 64 (args.flatMap (fV 3)) []))) (G.p f (args.map (iW h 6))):=(rfl)
def agb:stepG G ops g d ⟨t,h⟩ K Z (.call f args)=Hg (args.all (dC 3)) (reach h 64 (args.flatMap (fV 3)) []) ops g d ⟨t,h⟩ K Z (G.o f (args.map (ren (inN (reach h 64 (args.flatMap (fV 3)) [])) 6)) (wM h (reach h 64 (args.flatMap (fV 3)) []))) (G.p f (args.map (iW h 6))):=(rfl)
def aiB{a:Nat}:ow G d ⟨t,h⟩ K Z (.yld a args)=bif args.all (dC 3)then SE a d ⟨t,h⟩ K (Nl G args (aq h a))else False:=(rfl)
def aiC{a:Nat}:stepG G ops g d ⟨t,h⟩ K Z (.yld a args)=bif args.all (dC 3)then PK a ops g d ⟨t,h⟩ K (Nl G args (aq h a))else False:=(rfl)
attribute[go_sem]aga agb aiB aiC
@[go_sem] def anf:= @Nl.eq_1
@[go_sem]def aiD{a:Nat}:ow G d ⟨t,h⟩ K Z (.nxt a)=acd a d ⟨t,h⟩ K (aq h a):=(rfl)
variable {left:List Nat}
def ang{b a n:Nat}{c:Option Nat}:acd b d ⟨t,h⟩ K (.mi (some a) n left c)=Yb b a n left d ⟨t,h⟩ K (aq h a):=(rfl)
def anh{d c e n f:Nat}{a b:Tag}{l:List (a.T×b.T)}:Yb c e n left (some d) ⟨t,h⟩ K (.mp a b l (some (f,none)))=((f=c/\n=l.length)/\(left=[]->K ⟨(d,.tup [.v (.bool false)])::t,h⟩)/\∀ j,j∈left->K ⟨(d,.tup [.v (.bool true),svT a (l.getD j (eT a,eT b)).1,svT b (l.getD j (eT a,eT b)).2])::t,cO h c (.mi (some e) n (left.erase j) (some j))⟩):=(rfl)
def akE {a:Nat}:lh G h nx (.nxt a)=none:=(rfl)
attribute[go_sem]ang anh akE
variable {p:Bool->Prop}
def akF:lh G h nx (.amb p)=none:=(rfl)
def aiE{d:Nat}:ow G (some d) ⟨t,h⟩ K Z (.amb p)= ∀ b,p b->K ⟨(d,.v (.bool b))::t,h⟩:=(rfl)
def aiF:ow G d ⟨t,h⟩ K Z (.pan x)=Z x ⟨aug t,h⟩:=(rfl)
def aiG{a:List Nat}:zt np a d ⟨t,h⟩ K Z c none=Cq a d ⟨t,h⟩ K Z c:=(rfl)
def agc{a:List Nat}:Cq a d ⟨t,h⟩ K Z (some o)=(o.pre/\∀ r,o.post r->Nk a d ⟨t,h⟩ K Z (o.res r)):=(rfl)
def akG{a:List Nat}:Nk a d ⟨t,h⟩ K Z (.pan x h')=Z x ⟨aug t,ov a h.length h 0 h'⟩:=(rfl)
def akH{a:List Nat}:V_ a g d ⟨t,h⟩ K Z (.pan x h')=Z x ⟨aug t,ov a h.length h 0 h'⟩:=(rfl)
def aiH{a:List Nat}:Hg np a ops g d ⟨t,h⟩ K Z c none=Hf a ops g d ⟨t,h⟩ K Z c:=(rfl)
attribute[go_sem]akF aiE aiF aiG agc akG akH aiH
@[go_sem] def akI:= @lh.eq_7
@[go_sem] def akJ:= @lh.eq_1
@[go_sem] def akK:= @lh.eq_2
@[go_sem] def akL:= @lh.eq_3
@[go_sem] def aiI:= @lh.eq_4
@[go_sem] def akM:= @lh.eq_5
@[go_sem] def aiJ:= @lh.eq_6
@[go_sem] def akN:= @drX.eq_1
@[go_sem] def akO:= @drX.eq_2
@[go_sem] def ani:= @drB.eq_1
variable {C:FI}
@[go_sem]def anj{a:List Nat}:drB C a []=none:=(rfl)
@[go_sem] theorem ank{rd:List Nat}{a b:SV}{l:List SV}:drB C rd (a::b::l)=none:=by cases a <;>rfl
def avL{a:List Nat}:drB C a [.v x]=none:=(rfl)
def anl{a:List Nat}{i:Nat}:drB C a [.ptr i j]=none:=(rfl)
attribute[go_sem]avL anl
@[go_sem] def akP:= @ace.eq_1
def aiK{i:Nat}{a:List Nat}:ace C i a none=none:=(rfl)
def aiL {b:Bool}:Yc (.bool b)=true:=(rfl)
def akQ{a:Nat}:lh G h nx (.yld a args)=none:=(rfl)
def akR:lh G h nx (.pan x)=none:=(rfl)
attribute[go_sem]aiK aiL akQ akR
@[go_sem] def anm:= @drC.eq_1
@[go_sem] def ann:= @drR.eq_1
@[go_sem] def ano:= @drR.eq_2
def anp{a:List Nat}{s:SV}{p:Prop}{b c:Ob}{l:List Ob}:drR np a nx p s (b::c::l)=none:=(rfl)
def anq{a:List Nat}{b:α->SV}:drC np a nx (some (.rel α pre post b))=none:=(rfl)
def anr{a:List Nat}{s:SV}{b:Bool}:drC np a nx (some (.may b s x))=none:=(rfl)
def akS{a:List Nat}:drC np a nx none=none:=(rfl)
attribute[go_sem]anp anq anr akS
@[go_sem] def aiM:= @va.eq_1
variable {g:Option (Nat×Bool)}
@[go_sem]def aoU {x:Operand}:val ⟨ts,ops,g,⟨t,h⟩,nx⟩ x=bJ ops g (raw t x):=(rfl)
variable {cx:Cx}{x y a b:Operand}{ty n f:Nat}
@[go_sem] def akT:= @opS.eq_1
@[go_sem] def agd:= @opS.eq_2
variable {c:Operand}
def akU:opS ⟨ts,ops,g,⟨t,h⟩,nx⟩ (.pick c a b)=G7 a b (bJ ops g (raw t c)) (lV ops g c true (raw t a)) (lV ops g c false (raw t b)):=(rfl)
def aiN:opS ⟨ts,ops,g,⟨t,h⟩,nx⟩ (.alloc ty)=aR ts ty λa=>Nb nx (some a.zero):=(rfl)
def ans:opS ⟨ts,ops,g,⟨t,h⟩,nx⟩ (.box ty x)=Nb nx (rI (bJ ops g (raw t x))):=(rfl)
attribute[go_sem]akU aiN ans
variable {parts:List (Nat×Operand)}
def aiO:opS ⟨ts,ops,g,⟨t,h⟩,nx⟩ (.build ty parts.toArray)=aR ts ty λa=>bif a.auj then aR ts a.elem λb=>SB (mY (λi=>some (i*b.size,b.size)) a.zero (j5 ⟨ts,ops,g,⟨t,h⟩,nx⟩ parts))else bif a.agg then SB (mY (λi=>(nth a.fields i).map λf=>(f.1,f.2.1)) a.zero (j5 ⟨ts,ops,g,⟨t,h⟩,nx⟩ parts))else .bad:=(rfl)
def YP:opS ⟨ts,ops,g,⟨t,h⟩,nx⟩ (.buildSlice ty n parts.toArray)=aR ts ty λa=>aR ts a.elem λb=>PB (SD ty ops g) nx b (bsS a b n (j5 ⟨ts,ops,g,⟨t,h⟩,nx⟩ parts)):=(rfl)
def akV:opS ⟨ts,ops,g,⟨t,h⟩,nx⟩ (.load ty a)=aR ts ty λb=>uk b h (bJ ops g (raw t a)):=(rfl)
def aiP:opS ⟨ts,ops,g,⟨t,h⟩,nx⟩ (.store ty a x)=aR ts ty λb=>u9 b.size nx h (bJ ops g (raw t a)) (bJ ops g (raw t x)):=(rfl)
def acH:opS ⟨ts,ops,g,⟨t,h⟩,nx⟩ (.nilCheck x)=XT (bJ ops g (raw t x)):=(rfl)
def aiQ {a:BinOp}:opS ⟨ts,ops,g,⟨t,h⟩,nx⟩ (.binOp a ty x y n)=M9 ts a ty (bJ ops g (raw t x)) (bJ ops g (raw t y)):=(rfl)
def akW {a:UnOp}:opS ⟨ts,ops,g,⟨t,h⟩,nx⟩ (.unOp a ty x)=unS a (bJ ops g (raw t x)):=(rfl)
def aeA:opS ⟨ts,ops,g,⟨t,h⟩,nx⟩ (.convert n ty x)=aR ts n λ_=>aR ts ty λa=>Py a.int (bJ ops g (raw t x)):=(rfl)
def acI {a:Fn}{b c:List Operand}:opS cx (.makeFunc a b.toArray c.toArray)=PC a (dE cx b) (dE cx c):=(rfl)
attribute[go_sem]aiO YP akV aiP acH aiQ akW aeA acI
def aeB (k:SV):Option (Nat×Nat×Bool)->OR
 |some (o,n,_) =>bif Nat.ble 1 n then DK o k else .bad|none=>.bad
@[go_sem] def age:= @aeB.eq_1
def abJ:opS ⟨ts,ops,g,⟨t,h⟩,nx⟩ (.fieldAddr ty x f)=aR ts ty λa=>aeB (bJ ops g (raw t x)) (nth a.fields f):=(rfl)
def aiR:opS ⟨ts,ops,g,⟨t,h⟩,nx⟩ (.field ty x f)=aR ts ty λa=>u7 (nth a.fields f) (Kq (bJ ops g (raw t x))):=(rfl)
def abK:opS ⟨ts,ops,g,⟨t,h⟩,nx⟩ (.indexAddr ty x y)=aR ts ty λa=>aR ts a.elem λb=>iO a b.size h (bJ ops g (raw t x)) (bJ ops g (raw t y)):=(rfl)
def aiS:opS ⟨ts,ops,g,⟨t,h⟩,nx⟩ (.panic x)=XZ (bJ ops g (raw t x)):=(rfl)
def UZ:opS ⟨ts,ops,g,⟨t,h⟩,nx⟩ (.makeInterface ty x)=aR ts ty λa=>bif a.iface then .bad else Ha ty (bJ ops g (raw t x)):=(rfl)
def YQ {a:Bool}:opS ⟨ts,ops,g,⟨t,h⟩,nx⟩ (.typeAssert x n ty a)=aR ts ty λb=>taS ty a b (bJ ops g (raw t x)):=(rfl)
def aeC:opS ⟨ts,ops,g,⟨t,h⟩,nx⟩ (.extract x n)=XY n (bJ ops g (raw t x)):=(rfl)
def abL:opS ⟨ts,ops,g,⟨t,h⟩,nx⟩ (.makeSlice ty x y)=aR ts ty λb=>aR ts b.elem λa=>bif b.isSlice then(bif a.isSlice then aR ts a.elem λc=>Nf nx a c (bJ ops g (raw t x)) (bJ ops g (raw t y))else mkS nx a (bJ ops g (raw t x)) (bJ ops g (raw t y)))else .bad:=(rfl)
attribute[go_sem]abJ aiR abK aiS UZ YQ aeC abL
variable {lo hi:Option Operand}
def aiT:opS ⟨ts,ops,g,⟨t,h⟩,nx⟩ (.slice ty x lo hi none)=aR ts ty λa=>aR ts a.elem λb=>px a b.size nx h (qA ⟨ts,ops,g,⟨t,h⟩,nx⟩ lo) (qA ⟨ts,ops,g,⟨t,h⟩,nx⟩ hi) (LI hi&&PA ops) (bJ ops g (raw t x)):=(rfl)
def akX{m:Operand}:opS ⟨ts,ops,g,⟨t,h⟩,nx⟩ (.slice ty x lo hi (some m))=aR ts ty λa=>aR ts a.elem λ_=>Hc a (qA ⟨ts,ops,g,⟨t,h⟩,nx⟩ lo) (qA ⟨ts,ops,g,⟨t,h⟩,nx⟩ hi) (bJ ops g (raw t m)) (bJ ops g (raw t x)):=(rfl)
def aeD:opS ⟨ts,ops,g,⟨t,h⟩,nx⟩ (.makeMap ty none)=aR ts ty λa=>mmR nx a.mkt a.mvt:=(rfl)
def agf {a:Bool}:opS ⟨ts,ops,g,⟨t,h⟩,nx⟩ (.lookup ty x y a)=aR ts ty λb=>wg b h a (bJ ops g (raw t y)) (bJ ops g (raw t x)):=(rfl)
def abM:opS ⟨ts,ops,g,⟨t,h⟩,nx⟩ (.mapUpdate ty x y a)=aR ts ty λb=>FM b h (bJ ops g (raw t y)) (bJ ops g (raw t a)) (bJ ops g (raw t x)):=(rfl)
def agh:opS ⟨ts,ops,g,⟨t,h⟩,nx⟩ (.insert ty x y a)=aR ts ty λb=>FM b h (bJ ops g (raw t y)) (bJ ops g (raw t a)) (bJ ops g (raw t x)):=(rfl)
def acJ:opS ⟨ts,ops,g,⟨t,h⟩,nx⟩ (.mapEntry ty x y)=aR ts ty λa=>Cn a nx h (bJ ops g (raw t y)) (bJ ops g (raw t x)):=(rfl)
def YR:opS ⟨ts,ops,g,⟨t,h⟩,nx⟩ (.entryStore ty x y a)=aR ts ty λb=>Ng b h (bJ ops g (raw t a)) (bJ ops g (raw t x)) (bJ ops g (raw t y)):=(rfl)
attribute[go_sem]aiT akX aeD agf abM agh acJ YR
variable {args:List Operand}
def akY{a:Array TypeId}:opS ⟨ts,ops,g,⟨t,h⟩,nx⟩ (.call ⟨.value x,args.toArray,a⟩)=Cl (dE ⟨ts,ops,g,⟨t,h⟩,nx⟩ args) (bJ ops g (raw t x)):=(rfl)
def ant:opS ⟨ts,ops,g,⟨t,h⟩,nx⟩ (.call ⟨.builtin .len,args.toArray,[ty].toArray⟩)=aR ts ty λa=>wL a h (dE ⟨ts,ops,g,⟨t,h⟩,nx⟩ args):=(rfl)
def agi:opS ⟨ts,ops,g,⟨t,h⟩,nx⟩ (.call ⟨.builtin .append,args.toArray,[ty,n].toArray⟩)=aR ts ty λa=>aR ts n λb=>aR ts a.elem λc=>bif a.isSlice&&b.isSlice then nW c nx h (dE ⟨ts,ops,g,⟨t,h⟩,nx⟩ args)else .bad:=(rfl)
def agj{a:List TypeId}:opS ⟨ts,ops,g,⟨t,h⟩,nx⟩ (.call ⟨.builtin .delete,args.toArray,(ty::a).toArray⟩)=aR ts ty λb=>By b h (dE ⟨ts,ops,g,⟨t,h⟩,nx⟩ args):=(rfl)
def aiU:opS ⟨ts,ops,g,⟨t,h⟩,nx⟩ (.call ⟨.builtin .clear,args.toArray,[ty].toArray⟩)=aR ts ty λa=>aR ts a.elem λb=>Bx a b h (dE ⟨ts,ops,g,⟨t,h⟩,nx⟩ args):=(rfl)
attribute[go_sem]akY ant agi agj aiU
variable {tys:Array TypeId}
def anu:opS cx (.call ⟨.builtin .min,args.toArray,tys⟩)=Nc (dE cx args):=(rfl)
def anv:opS cx (.call ⟨.builtin .max,args.toArray,tys⟩)=Nd (dE cx args):=(rfl)
def aiV:opS ⟨ts,ops,g,⟨t,h⟩,nx⟩ (.range ty x)=aR ts ty λa=>Nh a nx h (bJ ops g (raw t x)):=(rfl)
def akZ:opS ⟨ts,ops,g,⟨t,h⟩,nx⟩ (.next x false)=X6 (bJ ops g (raw t x)):=(rfl)
def aiW:opS ⟨ts,ops,g,⟨t,h⟩,nx⟩ (.entry x)=E6 h (bJ ops g (raw t x)):=(rfl)
def aiX:fpO ⟨ts,ops,g,⟨t,h⟩,nx⟩ (.range ty x)=(gm (bJ ops g (raw t x)),[]):=(rfl)
def ak0 {s:Bool}:fpO cx (.next x s)=([],[]):=(rfl)
def aiY:fpO ⟨ts,ops,g,⟨t,h⟩,nx⟩ (.entry x)=(gm (bJ ops g (raw t x))++X9 h (bJ ops g (raw t x)),[]):=(rfl)
def ak1:fpO ⟨ts,ops,g,⟨t,h⟩,nx⟩ (.load ty a)=(gm (bJ ops g (raw t a)),[]):=(rfl)
def aiZ:fpO ⟨ts,ops,g,⟨t,h⟩,nx⟩ (.store ty a x)=(gm (bJ ops g (raw t a))++gm (bJ ops g (raw t x)),[]):=(rfl)
def abN:fpO ⟨ts,ops,g,⟨t,h⟩,nx⟩ (.indexAddr ty x y)=(gm (bJ ops g (raw t x)),[]):=(rfl)
def ai0{a:Option Operand}:fpO ⟨ts,ops,g,⟨t,h⟩,nx⟩ (.slice ty x lo hi a)=(gm (bJ ops g (raw t x)),[]):=(rfl)
def agk {a:Bool}:fpO ⟨ts,ops,g,⟨t,h⟩,nx⟩ (.lookup ty x y a)=bif a then(gm (bJ ops g (raw t x)),[])else([],gm (bJ ops g (raw t x))):=(rfl)
def abO:fpO ⟨ts,ops,g,⟨t,h⟩,nx⟩ (.mapUpdate ty x y a)=(gm (bJ ops g (raw t x)),[]):=(rfl)
def agl:fpO ⟨ts,ops,g,⟨t,h⟩,nx⟩ (.insert ty x y a)=(gm (bJ ops g (raw t x)),[]):=(rfl)
def acK:fpO ⟨ts,ops,g,⟨t,h⟩,nx⟩ (.mapEntry ty x y)=(gm (bJ ops g (raw t x)),[]):=(rfl)
def YS:fpO ⟨ts,ops,g,⟨t,h⟩,nx⟩ (.entryStore ty x y a)=(gm (bJ ops g (raw t x)),[]):=(rfl)
def anw:fpO ⟨ts,ops,g,⟨t,h⟩,nx⟩ (.call ⟨.builtin .len,args.toArray,tys⟩)=(rJ (dE ⟨ts,ops,g,⟨t,h⟩,nx⟩ args),[]):=(rfl)
def agm:fpO ⟨ts,ops,g,⟨t,h⟩,nx⟩ (.call ⟨.builtin .append,args.toArray,tys⟩)=(rJ (dE ⟨ts,ops,g,⟨t,h⟩,nx⟩ args),[]):=(rfl)
def agn:fpO ⟨ts,ops,g,⟨t,h⟩,nx⟩ (.call ⟨.builtin .delete,args.toArray,tys⟩)=(rJ (dE ⟨ts,ops,g,⟨t,h⟩,nx⟩ args),[]):=(rfl)
def ai1:fpO ⟨ts,ops,g,⟨t,h⟩,nx⟩ (.call ⟨.builtin .clear,args.toArray,tys⟩)=(rJ (dE ⟨ts,ops,g,⟨t,h⟩,nx⟩ args),[]):=(rfl)
def ak2:fpO cx (.move x)=([],[]):=(rfl)
def ago:fpO cx (.assign x)=([],[]):=(rfl)
def ak3:fpO cx (.pick x a b)=([],[]):=(rfl)
def ai2:fpO cx (.alloc ty)=([],[]):=(rfl)
def anx:fpO cx (.box ty x)=([],[]):=(rfl)
attribute[go_sem]anu anv aiV akZ aiW aiX ak0 aiY ak1 aiZ abN ai0 agk abO agl acK YS anw agm agn ai1 ak2 ago ak3 ai2 anx
variable {parts:Array (Nat×Operand)}
def ai3:fpO cx (.build ty parts)=([],[]):=(rfl)
def YT:fpO cx (.buildSlice ty n parts)=([],[]):=(rfl)
def acL:fpO cx (.nilCheck x)=([],[]):=(rfl)
def ai4 {a:BinOp}:fpO cx (.binOp a ty x y n)=([],[]):=(rfl)
def ak4 {a:UnOp}:fpO cx (.unOp a ty x)=([],[]):=(rfl)
def aeE:fpO cx (.convert n ty x)=([],[]):=(rfl)
def acM {a:Fn}{b c:Array Operand}:fpO cx (.makeFunc a b c)=([],[]):=(rfl)
def abP:fpO cx (.fieldAddr ty x f)=([],[]):=(rfl)
def ai5:fpO cx (.field ty x f)=([],[]):=(rfl)
def ai6:fpO cx (.panic x)=([],[]):=(rfl)
def U0:fpO cx (.makeInterface ty x)=([],[]):=(rfl)
def YU {a:Bool}:fpO cx (.typeAssert x n ty a)=([],[]):=(rfl)
def aeF:fpO cx (.extract x n)=([],[]):=(rfl)
def abQ:fpO cx (.makeSlice ty x y)=([],[]):=(rfl)
def aeG {o:Option Operand}:fpO cx (.makeMap ty o)=([],[]):=(rfl)
attribute[go_sem]ai3 YT acL ai4 ak4 aeE acM abP ai5 ai6 U0 YU aeF abQ aeG
variable {args:Array Operand}
def ak5:fpO cx (.call ⟨.value x,args,tys⟩)=([],[]):=(rfl)
def anz:fpO cx (.call ⟨.builtin .min,args,tys⟩)=([],[]):=(rfl)
def anA:fpO cx (.call ⟨.builtin .max,args,tys⟩)=([],[]):=(rfl)
attribute[go_sem]ak5 anz anA
@[go_sem] theorem ai7 {k:TI->OR}:aR ts ty k=To k (ts ty):=by unfold aR To;cases ts ty <;>rfl
@[go_sem] def agp:= @To.eq_1
@[go_sem] def aeH:= @lV.eq_1
variable {want:Bool}
def acN:lV ops g c want .any=.any:=(rfl)
def agq{v:Value}:lV ops g c want (.v v)=.v v:=(rfl)
attribute[go_sem]acN agq
@[go_sem] def anB:= @G7.eq_1
@[go_sem] def anC:= @G7.eq_2
@[go_sem] def anD:= @G7.eq_3
@[go_sem] def ai8:= @Cr.eq_1
@[go_sem]def ai9 {t:List (Nat×SV)}{h:List Ob}:auN ⟨t,h⟩=bif qB h then ⟨SF h t,Bb h⟩else ⟨t,h⟩:=(rfl)
@[go_sem] def anE:= @raw.eq_1
@[go_sem] def ai_:= @raw.eq_2
@[go_sem] def ak6:= @raw.eq_3
@[go_sem] theorem aoV {n:Nat}{s:SV}{r:List (Nat×SV)}:lk n ((n,s)::r)=s:=by simp[lk]
@[go_sem] def anF:= @lk.eq_2
@[go_sem] def aoW:= @lk.eq_1
@[go_sem] def anG:= @bJ.eq_3
@[go_sem] def aja:= @bJ.eq_2
@[go_sem] def ajb:= @bJ.eq_4
@[go_sem] def ak7:= @bJ.eq_5
@[go_sem] def ak8:= @bJ.eq_21
@[go_sem] theorem aeI {k:Tag}{l:List k.T}:G9 k (.row k l)=some l:=by simp[G9]
@[go_sem] def ak9:= @bJ.eq_6
@[go_sem] def ak_:= @bJ.eq_7
@[go_sem] def ala:= @bJ.eq_8
@[go_sem] def alb:= @bJ.eq_9
@[go_sem] def alc:= @bJ.eq_10
@[go_sem] def ald:= @bJ.eq_11
@[go_sem] def ale:= @bJ.eq_12
@[go_sem] def alf:= @bJ.eq_13
@[go_sem] def alg:= @bJ.eq_14
@[go_sem] def ajc:= @bJ.eq_15
@[go_sem] def ajd:= @bJ.eq_16
@[go_sem] def alh:= @bJ.eq_17
@[go_sem] def ali:= @bJ.eq_1
end
section
variable {ti te:TI}{esz nx id id2 off:Nat}{h:List Ob}{k k2:Tag}{i j n c:Int}{kk kj:IntKind}{lo hi:Option SV}{key s:SV}{ok:Bool}{ts:Tis}{op:BinOp}{ty:Nat}
@[go_sem] def awQ:= @one.eq_1
@[go_sem]def awN {α:Type}{x y:α}{l:List α}:one (x::y::l)=false:=(rfl)
@[go_sem] def anH:= @PB.eq_1
variable {g:Option (Nat×Bool)}
def anI{s:Nat}{l:List SV}:PB g nx te (.auh (.ls s l))=.auh (.ls s l):=(rfl)
def anJ:PB g nx te (.auh .e0)=.auh .e0:=(rfl)
def alj {a b:Int}:M9 ts op ty (.v (.int kk a)) (.v (.int kj b))=bif E5 op kk kj then wZ op kk a b else .bad:=(rfl)
attribute[go_sem]anI anJ alj
variable {l:List k.T}
def anK:M9 ts op ty (.rs k l) (.v (.slice none 0 0))=aR ts ty λa=>bif a.isSlice then abY op (l=[])else .bad:=(rfl)
def alk {a b:ByteArray}:M9 ts op ty (.v (.string a)) (.v (.string b))=aR ts ty λc=>bif Nat.beq c.sc 2 then Uo op a b else .bad:=(rfl)
def aje {a b:Bool}:M9 ts op ty (.v (.bool a)) (.v (.bool b))=aR ts ty λc=>bif Nat.beq c.sc 3 then M8 op a b else .bad:=(rfl)
def alm {a b:List SV}:M9 ts op ty (.agg a) (.agg b)=aR ts ty λc=>eqT op a b c:=(rfl)
attribute[go_sem]anK alk aje alm
@[go_sem] def ajf:= @iO.eq_1
@[go_sem] def ajg:= @iO.eq_2
@[go_sem] def ajh:= @iO.eq_3
@[go_sem] def aji:= @iO.eq_4
@[go_sem] def agr:= @iO.eq_5
@[go_sem] def ajj:= @iO.eq_6
@[go_sem] def ajk:= @iO.eq_7
@[go_sem] def anL:= @wL.eq_1
@[go_sem] def aln:= @wL.eq_2
@[go_sem] def anM:= @wL.eq_4
@[go_sem] def anN:= @wL.eq_3
@[go_sem] def anO:= @wL.eq_5
@[go_sem] def anP:= @wL.eq_6
@[go_sem] def anQ:= @wL.eq_7
def alo{a b:Int}:Hc ti none (some (.i a)) (.i b) (.rs k l)=bif ti.isSlice then .chk (a=(l.length:Int)/\b=(l.length:Int)) (.rc k l)else .bad:=(rfl)
def ajl:Hc ti none (some (.i 0)) (.i 0) (.v (.slice none 0 0))=bif ti.isSlice then .val (.v (.slice none 0 0))else .bad:=(rfl)
attribute[go_sem]alo ajl
@[go_sem] def ajm:= @px.eq_1
@[go_sem] def ajn:= @px.eq_2
@[go_sem] def ags:= @X3.eq_1
@[go_sem] def alp:= @bnd.eq_1
@[go_sem] def alq:= @bnd.eq_2
@[go_sem] def ajo:= @ab7.eq_1
@[go_sem] def ajp:= @ab8.eq_1
@[go_sem] def anR:= @mkS.eq_1
@[go_sem] def anS:= @nW.eq_1
@[go_sem] def anT:= @nW.eq_2
def ajq:nW te nx h [.os id,(.rs k l)]=zc te nx [(id,.dead)] h (.rs k l) (aq h id):=(rfl)
def ajr:nW te nx h [.v (.slice none 0 0),(.rs k l)]=xS te nx h (.rs k l) te.tag:=(rfl)
attribute[go_sem]ajq ajr
@[go_sem] def anU:= @nW.eq_7
@[go_sem] def anV:= @ab4.eq_1
def ajs:nW te nx h [.e0,(.rs k l)]=xS te nx h (.rs k l) te.tag:=(rfl)
def agt:nW te nx h [.os id,(.v (.slice none 0 0))]=zc te nx [(id,.dead)] h (.v (.slice none 0 0)) (aq h id):=(rfl)
def agu:nW te nx h [.v (.slice none 0 0),(.v (.slice none 0 0))]=xS te nx h (.v (.slice none 0 0)) te.tag:=(rfl)
def agv:nW te nx h [.e0,(.v (.slice none 0 0))]=xS te nx h (.v (.slice none 0 0)) te.tag:=(rfl)
def ajt:nW te nx h [.os id,.e0]=zc te nx [(id,.dead)] h .e0 (aq h id):=(rfl)
def aju:nW te nx h [.v (.slice none 0 0),.e0]=xS te nx h .e0 te.tag:=(rfl)
def ajv:nW te nx h [.e0,.e0]=xS te nx h .e0 te.tag:=(rfl)
def ajw {s:Nat}{a b:Int}:nW te nx h [.os id,(.vw s id2 a b)]=zc te nx [(id,.dead)] h (.vw s id2 a b) (aq h id):=(rfl)
def ajx {s:Nat}{a b:Int}:nW te nx h [.v (.slice none 0 0),(.vw s id2 a b)]=xS te nx h (.vw s id2 a b) te.tag:=(rfl)
def ajy {s:Nat}{a b:Int}:nW te nx h [.e0,(.vw s id2 a b)]=xS te nx h (.vw s id2 a b) te.tag:=(rfl)
attribute[go_sem]ajs agt agu agv ajt aju ajv ajw ajx ajy
@[go_sem] def ajz:= @nW.eq_3
@[go_sem] def alr:= @ab3.eq_1
def ajA:nW te nx h [.v (.slice none 0 0),(.os id2)]=xS te nx h (.os id2) te.tag:=(rfl)
def ajB:nW te nx h [.e0,(.os id2)]=xS te nx h (.os id2) te.tag:=(rfl)
attribute[go_sem]ajA ajB
@[go_sem] theorem agw:Cm k k l=some l:=by simp[Cm]
@[go_sem] def anW:= @w6.eq_1
@[go_sem] def als:= @w6.eq_2
@[go_sem] def anX:= @w6.eq_3
@[go_sem] def anY:= @w6.eq_4
@[go_sem] def anZ:= @w6.eq_5
@[go_sem] def alt:= @wg.eq_1
@[go_sem] def alu:= @wg.eq_2
@[go_sem] def ajC:= @wg.eq_3
@[go_sem] def an0:= @Ng.eq_1
def alv:DI (.v (.int kk n))=some [(.v (.int kk n))]:=(rfl)
def alw {b:ByteArray}:DI (.v (.string b))=some [.v (.string b)]:=(rfl)
def ajD {b:Bool}:DI (.v (.bool b))=some [.v (.bool b)]:=(rfl)
def an1:DI (.rs k l)=some [.rs k l]:=(rfl)
def an2 {l:List (k.T×k2.T)}:DI (.rm k k2 l)=some [.rm k k2 l]:=(rfl)
def an3:DI .e0=some [.e0]:=(rfl)
def alx:DI (.v (.slice none 0 0))=some [.v (.slice none 0 0)]:=(rfl)
def ajE:DI (.v (.map none))=some [.v (.map none)]:=(rfl)
attribute[go_sem]alv alw ajD an1 an2 an3 alx ajE
@[go_sem] def ajF:= @taS.eq_1
end
@[go_sem]def awX (a b:Nat):Nat.beq a b=(a==b):=by
 rw[arj];simp
@[go_sem]def awW (a b:Nat):Nat.ble a b=decide (a<=b):=by
 rw[arj];simp
@[go_sem]def awV (a b:Nat):Nat.blt a b=decide (a<b):=by
 rw[arj];simp[Nat.blt];omega
section
variable {σ:Type}{D:σ->St}{I:σ->Prop}{m:σ->Nat}{x:σ}{id n0:Nat}{Q:Ex->St->Prop}{st:St}{rs:List ResultVar}{post:SV->Prop}{ts:Tis}{pp:Value->Prop}{C:atB}{md:Bool}
@[go_sem] def abR:= @xV.eq_1
@[go_sem] def aeJ:= @xV.eq_2
@[go_sem] def agx:= @xV.eq_3
@[go_sem] def agy:= @xV.eq_4
@[go_sem] def abS:= @jw.eq_1
@[go_sem] def ajG:= @Hn.eq_3
@[go_sem] def acO:= @Hn.eq_2
@[go_sem] def ajH:= @Hn.eq_4
@[go_sem] def acP:= @PN.eq_2
@[go_sem] def ajI:= @PN.eq_3
@[go_sem] def ajJ:= @PN.eq_4
@[go_sem] def agz:= @Ho.eq_1
@[go_sem]def aoX {a:List Nat}{t c:List (Nat×SV)}{h b:List Ob}:Sub a n0 ⟨t,h⟩ ⟨c,b⟩=((uniq (nX a b)=true/\DN 0 a n0=true/\a.all (λj=>Nat.blt j h.length)=true)/\Yh (Hm a) b.length t c/\Kr (Hm a) b.length h a b):=(rfl)
end
attribute [go_sem] aea X0
attribute [go_sem] decide_true decide_false cond_true cond_false List.any_cons List.any_nil Option.isSome_none Option.isSome_some Bool.or_false Bool.false_or Bool.or_true Bool.true_or Bool.and_true Bool.true_and Bool.and_false Bool.false_and Bool.not_true Bool.not_false List.length_cons List.length_nil List.map_cons List.map_nil List.flatMap_cons List.flatMap_nil List.append_nil List.isEmpty_nil List.isEmpty_cons Option.map_some Option.map_none Option.bind_some Option.getD_some Option.getD_none Option.toList_some Option.toList_none List.cons_append List.nil_append Nat.zero_add Nat.add_zero Nat.zero_mul Nat.mul_one Nat.one_mul
 uo FK nth Px wZ E5 abY Uo M8 eqV Cj eqL eqO eqT aff kN Kq unS w5 uk Ck G8 DJ DK M_ Su Sv mY ul FL u7 XR Uq Sy Sz SA t6 u9 G_ XS Na Nf ab6 ab5 qB Uz Bb afx SF Yd akq XT Py Nb SB ad8 lsS bsT bsU ako osL osV abZ afl ad_ bsG bsS noG XY Cl ab0 afn afm Nc Nd XZ Ha PC ab1 afo X4 ab2 zc PD Hb afp xS mkT ab9 LH mQ LI noE Uv X5 afr afs FM V5 V6 Cn aft afu afv afw By afq Bx Uu mmR zsO svT Pw unT qx akg
 eb gN zr aca Uy X_ frz acb V7 iW aug dC jQ a6 vb jN fV Ya reach FN Bz Cp ren xT V9 inN wM um li ov aq cO bu fA gm Ni rJ mA V8 Co akj akk XU Ur XV akl afh SC Us Pz XW afi PA akm afj XX afk akn Ut ad9 SD fpU LJ rI cut Pv sz t5 G5 il cellsOf qy yQ dX fit wX toI toB toS toF fnV Ao B_ Ca Ap Cb Cc Cd G0 aux Bv DF LG awZ aw0 aw1 aw2 Pp aw3 abW aw4 aw5 Cf XP M6 Pr V3 V4 Sq FJ Kp abX lu zo
 at0 mkE Ps Bw DG Cg B9 eT ae G6 Ci dE j5 qA acf Wa PM t7 v_ aks Hj zv Bc E8 aed xU uniq Wb Hk ab_ Nh X6 X7 Uw E6 X9 X8 arK Sw xR List.all_cons List.all_nil att Po Yh Kr Nm UA wkL Hl unp dT yT ox nX DN Hm
end Go.Sx
end
section
namespace Go.Sx
open IntKind (i64)
open Go.RowKit
universe u
variable {P:Program}
def aa (f:Func):Code:=match f.body with|some c=>c|none=>.skip
def L0:yS:=λ_ _=>none
@[go_sem] def an4:= @L0.eq_1
def mkP:List (Nat×(FI))->FuncId->List SV->Option Con
 | [],_,_=>none|(n,C)::r,f,l=>bif Nat.beq n f then C l else mkP r f l
def mkO:List (Nat×(List SV->List Ob->Option atB))->FuncId->List SV->List Ob->Option atB
 | [],_,_,_=>none|(n,C)::r,f,l,h=>bif Nat.beq n f then C l h else mkO r f l h
def Tp:∀ (E:List (Nat×(FI))),(∀ x∈E,P0 P x.1 x.2)->∀ f,P0 P f (mkP E f)
 | [],_,f=>⟨λl c h=>(by cases h),λl c h=>(by cases h)⟩
 |(n,C)::r,h,f=>by
  have V:=Tp r (λx O=>h x (by simp[O])) f;cases W:Nat.beq n f with
  |false=>
   simp_all [mkP]
  |true=>
   simp_all [mkP]
def Tq:∀ (E:List (Nat×(List SV->List Ob->Option atB))),(∀ x∈E,atA P x.1 x.2)->∀ f,atA P f (mkO E f)
 | [],_,f=>⟨λl h c hc=>(by cases hc),λl h c hc=>(by cases hc)⟩
 |(n,C)::r,h,f=>by
  have V:=Tq r (λx O=>h x (by simp[O])) f;cases W:Nat.beq n f with
  |false=>
   simp_all [mkO]
  |true=>
   simp_all [mkO]
def noY:List SV->Res->Option auL:=λ_ _=>none
def agA:YOk P noY:=λl r c h=>(by cases h)
def mkG (a:List (Nat×(FI)))(b:List (Nat×(List SV->List Ob->Option atB))):Cons:=⟨mkP a,mkO b,noY⟩
def qF {O:List (Nat×(FI))}{E:List (Nat×(List SV->List Ob->Option atB))}(a:∀ x∈O,P0 P x.1 x.2)(b:∀ x∈E,atA P x.1 x.2):atj P (mkG O E):=⟨Tp O a,Tq E b,agA⟩
variable {ps:List (Nat×(FI))}{os:List (Nat×(List SV->List Ob->Option atB))}
def avQ:(mkG ps os).p=mkP ps:=(rfl)
def avY:(mkG ps os).o=mkO os:=(rfl)
attribute[go_sem]avQ avY
@[go_sem] def an5:= @mkP.eq_1
@[go_sem] def aly:= @mkP.eq_2
@[go_sem] def an6:= @mkO.eq_1
@[go_sem] def alz:= @mkO.eq_2
section
variable {α:Type u}
def pI (k:Int->List SV->Option α):List SV->Option α
 | .v (.int .i64 n)::r=>k n r|_=>none
def pU (k:Int->List SV->Option α):List SV->Option α
 | .v (.int .u64 n)::r=>k n r|_=>none
def pB (k:Bool->List SV->Option α):List SV->Option α
 | .v (.bool b)::r=>k b r|_=>none
def pS (k:ByteArray->List SV->Option α):List SV->Option α
 | .v (.string b)::r=>k b r|_=>none
def L_ (t:Tag)(k:List t.T->List SV->Option α)(r:List SV)(a:Tag)(l:List a.T):Option α:=if h:a=t then k (h▸l) r else none
def pR (t:Tag)(k:List t.T->List SV->Option α):List SV->Option α
 | .rs k' l::r=>L_ t k r k' l|_=>none
def pDo {T:Type}(k:T->List SV->Option α)(r:List SV):Option T->Option α
 |some x=>k x r|none=>none
def pD (t:Tag)(k:t.T->List SV->Option α):List SV->Option α
 | .agg l::r=>pDo k r (yQ t l)|_=>none
def pX (t:Tag)(k:t.T->List SV->Option α):List SV->Option α
 | .ep l 0::r=>pDo k r (yQ t l)|_=>none
def YV (t a:Tag)(k:List (t.T×a.T)->List SV->Option α)(r:List SV)(b c:Tag)(l:List (b.T×c.T)):Option α:=if h:b=t/\c=a then k (h.1▸h.2▸l) r else none
def pM (t t2:Tag)(k:List (t.T×t2.T)->List SV->Option α):List SV->Option α
 | .rm k' k2 l::r=>YV t t2 k r k' k2 l|_=>none
def pE (c:α):List SV->Option α
 | [] =>some c|_=>none
variable {k:Int->List SV->Option α}{kb:Bool->List SV->Option α}{ks:ByteArray->List SV->Option α}{r:List SV}{c:α}{t:Tag}
@[go_sem] def an7:= @pI.eq_1
@[go_sem] def an8:= @pU.eq_1
@[go_sem] def an9:= @pB.eq_1
@[go_sem] def an_:= @pS.eq_1
@[go_sem] theorem aoa {kr:List t.T->List SV->Option α}{l:List t.T}:pR t kr (.rs t l::r)=kr l r:=by simp[pR,L_]
@[go_sem] def aob:= @pD.eq_1
@[go_sem] def aoc:= @pX.eq_1
@[go_sem] theorem aod {t2:Tag}{kr:List (t.T×t2.T)->List SV->Option α}{l:List (t.T×t2.T)}:pM t t2 kr (.rm t t2 l::r)=kr l r:=by simp[pM,YV]
@[go_sem] def alA:= @pDo.eq_1
@[go_sem] def aoY:= @pE.eq_1
variable {l:List SV}
theorem YW{c:α}(h:pI k l=some c):∃ n r,l=.i n::r/\k n r=some c:=by
 unfold pI at h;grind
theorem NN{c:α}(h:pU k l=some c):∃ n r,l=.v (.int .u64 n)::r/\k n r=some c:=by
 unfold pU at h;grind
theorem agB{c:α}(h:pB kb l=some c):∃ n r,l=.v (.bool n)::r/\kb n r=some c:=by
 unfold pB at h;grind
theorem zH{c E:α}(h:pE E l=some c):l=[]/\c=E:=by
 grind [pE]
theorem agC{kr:List t.T->List SV->Option α}{c:α}(h:pR t kr l=some c):∃ x r,l=.rs t x::r/\kr x r=some c:=by
 unfold pR at h;grind [L_]
variable {kd:t.T->List SV->Option α}
theorem YX{c:α}(h:pX t kd l=some c):∃ x r,l=.ep (cellsOf t x) 0::r/\kd x r=some c:=by
 unfold pX at h;split at h;rename_i l' r;cases E:yQ t l' with
 |none=>rw[E]at h;cases h
 |some x=>rw[E]at h;exact⟨x,r,by rw[tD E],h⟩
 cases h
theorem YY{t2:Tag}{kr:List (t.T×t2.T)->List SV->Option α}{c:α}(h:pM t t2 kr l=some c):∃ x r,l=.rm t t2 x::r/\kr x r=some c:=by
 unfold pM at h;split at h;unfold YV at h;grind
 cases h
theorem NO{c:α}(h:pD t kd l=some c):∃ x r,l=.agg (cellsOf t x)::r/\kd x r=some c:=by
 unfold pD at h;split at h;rename_i l' r;cases E:yQ t l' with
 |none=>rw[E]at h;cases h
 |some x=>rw[E]at h;exact⟨x,r,by rw[tD E],h⟩
 cases h
end
section
variable {F:Nat->Prop}{own:Own}{w:World}
theorem H1 {p:Pk}{s:SV}{v:Value}(h:Rel F own w s v):Rel F own w (DG p s) v:=by
 unfold DG;split;cases h with
 |agg W h1=>
  refine .agg (by grind [Cv]) λj s V=>?_;obtain⟨s0,O,E| ⟨k,E⟩⟩:=xa _ _ _ _ V;grind
  subst E;exact qD (h1 j _ O)
 exact qD h;exact qD h;exact h
theorem H2:∀ (E:List Pk) (l:List SV),(Cg E l).length=l.length
 | [],l=>by simp[Cg]
 |k::ks,[] =>by simp[Cg]
 |k::ks,s::r=>by simp[Cg,H2 ks r]
theorem H3:∀ (E:List Pk) (l:List SV) (j:Nat) (s:SV),(Cg E l)[j]? =some s->∃ s0,l[j]? =some s0/\(s=s0\/∃ p,s=DG p s0)
 | [],l,j,s,h=>⟨s,by grind [Cg],.inl rfl⟩
 |k::ks,[],j,s,h=>by simp[Cg]at h
 |k::ks,x::r,0,s,h=>by grind [Cg]
 |k::ks,x::r,j+1,s,h=>by simpa using H3 ks r j s h
theorem P0.norm {f:FuncId}{C:FI}(X:List Pk)(h:P0 P f C):P0 P f (λl=>C (Cg X l)):=
 ⟨λl c hc=>h.enter _ c hc,λl c hc O F w vs Y E=>h.calls _ c hc O F w vs Y ⟨by rw[H2];exact E.1,λj s hj=>by
  obtain⟨s0,W,V| ⟨p,V⟩⟩:=H3 _ _ _ _ hj;subst V;exact E.2 j _ W;subst V;exact H1 (E.2 j _ W)⟩⟩
end
attribute [go_sem] et lA pZ
attribute [go_sem] yQ
def noH {α:Type 1}:List Ob->Option α->Option α
 | [],x=>x|_,_=>none
@[go_sem] def aoe:= @noH.eq_1
theorem U3 {α:Type 1}{h:List Ob}{x:Option α}{c:α}(E:noH h x=some c):h=[]/\x=some c:=by
 cases h with
 |nil=>exact⟨rfl,E⟩|cons=>cases E
theorem ar {n:Int}(h1: -9223372036854775808<=n)(h2:n<9223372036854775808):i64.wrap n=n:=by
 simp[IntKind.wrap,IntKind.bits,IntKind.signed];omega
end Go.Sx
end
section
namespace Go.Sx
open Go.RowKit
open IntKind (i64)
def aj {ρ σ:Type}(step:Nat->σ->ρ⊕σ):Nat->Nat->σ->ρ⊕σ
 |0,_,s=>.inr s
 |n+1,i,s=>match step i s with
  | .inl r=>.inl r| .inr s'=>aj step n (i+1) s'
def cS {ρ σ τ:Type}(step:τ->σ->ρ⊕σ):List τ->σ->ρ⊕σ
 | [],s=>.inr s
 |x::l,s=>match step x s with
  | .inl r=>.inl r| .inr s'=>cS step l s'
def Ma {ρ σ τ:Type}(f:τ->σ->ρ⊕σ)(d:τ):∀ (l pre:List τ) (s:σ),aj (λi s=>f ((pre++l).getD i d) s) l.length pre.length s=cS f l s
 | [],_,_=>rfl
 |x::l,pre,s=>by
  simp only[aqc,aj,cS];have e:(pre++x::l).getD pre.length d=x:=by simp
  rw[e];cases f x s with
  |inl r=>rfl
  |inr s'=>
   have:=Ma f d l (pre++[x]) s';grind
def uu {ρ σ τ:Type}(f:τ->σ->ρ⊕σ)(d:τ)(l:List τ)(s:σ):aj (λi s=>f (l.getD i d) s) l.length 0 s=cS f l s:=Ma f d l [] s
def LC {ρ σ:Type}(pre:Prop)(run:ρ⊕σ)(exE:ρ->Ex)(Y2:ρ->St)(atw:σ->St):at8:=
 {α:=ρ⊕σ,pre:=pre,post:=λr=>r=run,ex:=λr=>match r with| .inl x=>exE x| .inr _=>.normal,out:=λr=>match r with| .inl x=>Y2 x| .inr s=>atw s}
@[go_sem]def Qp {ρ σ:Type}{pre:Prop}{run:ρ⊕σ}{exE:ρ->Ex}{Y2:ρ->St}{atw:σ->St}{Q:Ex->St->Prop}:
  un Q (some (LC pre run exE Y2 atw))=(pre/\(∀ x,run=.inl x->Q (exE x) (Y2 x))/\∀ s,run=.inr s->Q .normal (atw s)):=by
 apply propext;constructor
 rintro⟨h1,h2⟩;exact⟨h1,λx hx=>h2 (.inl x) hx.symm,λs hs=>h2 (.inr s) hs.symm⟩;rintro⟨h1,h2,h3⟩;refine⟨h1,λr hr=>?_⟩;cases r with
 |inl x=>exact h2 x hr.symm|inr s=>exact h3 s hr.symm
section
variable {P:Program}{ρ σ:Type}
def acQ (step:Nat->σ->ρ⊕σ)(n:Nat)(exE:ρ->Ex)(Y2:ρ->St)(atw:σ->St)(n0 k:Nat)(s:σ)(e:Ex)(st:St):Prop:=
 (∃ js,n<=k/\e=.normal/\n0<=(atw s).h.length/\Sub js n0 st (atw s))\/∃ x js,k<n/\step k s=.inl x/\exE x=e/\n0<=(Y2 x).h.length/\Sub js n0 st (Y2 x)
def NP (step:Nat->σ->ρ⊕σ)(n:Nat)(exE:ρ->Ex)(Y2:ρ->St)(atw:σ->St)(D:Nat->σ->St)(J:Nat->σ->Prop)(n0 id k:Nat)(s:σ):Ex->St->Prop
 | .normal,st=>k<n/\∃ s' js,step k s=.inr s'/\J (k+1) s'/\n0<=(D (k+1) s').h.length/\Sub js n0 st (D (k+1) s')| .exit j,st=>bif Nat.beq j id then acQ step n exE Y2 atw n0 k s .normal st else acQ step n exE Y2 atw n0 k s (.exit j) st| .ret,st=>acQ step n exE Y2 atw n0 k s .ret st| .pan x,st=>acQ step n exE Y2 atw n0 k s (.pan x) st
variable {step:Nat->σ->ρ⊕σ}{n n0 id k j:Nat}{exE:ρ->Ex}{Y2:ρ->St}{atw:σ->St}{D:Nat->σ->St}{J:Nat->σ->Prop}{s:σ}{st:St}{x:Value}
@[go_sem] def abT:= @NP.eq_1
@[go_sem] def aeK:= @NP.eq_2
@[go_sem] def agD:= @NP.eq_3
@[go_sem] def agE:= @NP.eq_4
end
def itY (items:List (List SV))(r:Nat->Res):List SV->Res->Option auL:=λargs x=>
 some { α:=Bool,pre:=x=r x.n/\1<=x.n/\items[x.n - 1]? =some args,post:=λ_=>True,res:=λb=>(b,r (if b then x.n+1 else 0))}
def CK (P:Program)(f:FuncId)(mk:SV->List SV)(hs:List Ob)(items:List (List SV)):Prop:=
 (∀ (args:Array Value) (w:World),(callFunc f args).run P w=.ok (.enter f args) w)/\
 ∀ r:Nat->Res,(∀ k,(r k).n=k)->YOk P (itY items r)->∀ (F:Nat->Prop) (own:Own) (w:World) (vs:Array Value),Hp F own w (.ab (r 1)::hs)->atP F own w (mk (.os 0)) vs->
  Calls P f vs w (λe w'=>∃ u l5 j h',e=.returned u/\(j=0\/j=items.length+1)/\Hp F l5 w' (.ab (r j)::h')/\Fr { w:=w,own:=own} l5 w')
variable {items:List (List SV)}
theorem U4{P:Program}{f:FuncId}{V:SV->List SV}{O:List Ob}
  (h:∀ r:Nat->Res,(∀ k,(r k).n=k)->YOk P (itY items r)->∃ C,atA P f C/\∃ c,C (V (.os 0)) (.ab (r 1)::O)=some c/\c.pre/\∀ x,c.post x->∃ s j h',c.res x=.ret s (.ab (r j)::h')/\(j=0\/j=items.length+1))
  (X:∀ (args:Array Value) (w:World),(callFunc f args).run P w=.ok (.enter f args) w):CK P f V O items:=by
 refine⟨X,λr hr hy F own w vs hp E=>?_⟩;have⟨C,hC,c,h1,h2,h3⟩:=h r hr hy;refine(hC.calls _ _ c h1 h2 F own w vs hp E).mono ?_;rintro e w' ⟨x,l5,Y,W⟩;have⟨s,j,h',k1,k2⟩:=h3 x Y;rw[k1]at W;obtain⟨⟨u,rfl,_⟩,q3,q4,_⟩:=W;grind
def Qq (a:Prop)(r:Nat->Res)(m:Nat):auL:= { α:=Bool,pre:=a,post:=λ_=>True,res:=λb=>(b,r (if b then m else 0))}
def NQ{r:Nat->Res}(hr:∀ k,(r k).n=k)(k:Nat)(args:List SV):itY items r args (r (k+1))=some (Qq (items[k]? =some args) r (k+2)):=by
 grind [itY,Qq]
section
variable {id m:Nat}{t:List (Nat×SV)}{h:List Ob}{K:St->Prop}{pre:Prop}{r:Nat->Res}{ops:List Oper}{g:Nat×Bool}
theorem two {p:Bool->Prop}:(∀ b,p b)=(p true/\p false):=propext ⟨λh=>⟨h true,h false⟩,λh b=>by
 cases b <;>grind⟩
@[go_sem] theorem aof {d:Nat}:SE id (some d) ⟨t,h⟩ K (some (Qq pre r m))=(pre/\K ⟨(d,.b true)::t,cO h id (.ab (r m))⟩/\K ⟨(d,.b false)::t,cO h id (.ab (r 0))⟩):=by
 show(pre/\∀ b:Bool,True->K ⟨(d,.b b)::t,cO h id (.ab (r (if b then m else 0)))⟩)=_;grind
@[go_sem] theorem aog {d:Nat}:PK id ops g (some d) ⟨t,h⟩ K (some (Qq pre r m))=((eb ops t ops.length g->pre/\K ⟨(d,.gd g.1 g.2 (.b true))::t,cO h id (.ab (r m))⟩/\K ⟨(d,.gd g.1 g.2 (.b false))::t,cO h id (.ab (r 0))⟩)/\(gN ops t ops.length g->K ⟨(d,.gd g.1 g.2 .any)::t,h⟩)):=by
 show((eb ops t ops.length g->pre/\∀ b:Bool,True->K ⟨(d,.gd g.1 g.2 (.b b))::t,cO h id (.ab (r (if b then m else 0)))⟩)/\(gN ops t ops.length g->K ⟨(d,.gd g.1 g.2 .any)::t,h⟩))=_;grind
end
def acR (a:Own)(n:Nat):List Nat:=(List.range n).flatMap λb=>match a b with|some c=>c.bs|none=>[]
theorem H4 {own:Own}{n:Nat}(hd:∀ id hd,own id=some hd->id<n)(b:Nat):b∈acR own n↔∃ id hd,own id=some hd/\b∈hd.bs:=by
 grind [acR]
section
variable {P:Program}{w0:Bs}{ts:Tis}{G:Cons}{L:yS}{N:Nat}
def Fw (F:Nat->Prop)(l:Nat)(w:World)(b:Nat):Prop:=(F b/\b<w.heap.size)\/b=l
structure ava where
 l:Nat
 fn:FuncId
 tmps:Array Value
 ps:Array Tmp
 assign:Code
 body:Code
 D:Nat
def ava.obj (x:ava)(s:LoopState)(p:Option Code):Obj:=.loop { state:=s,pending:=p,fn:=x.fn,tmps:=x.tmps,params:=x.ps,assign:=x.assign,body:=x.body,defers:=x.D}
structure Pack (x:ava)(T:List (Nat×SV))(dI:Own)(n0:Nat)(H:List Ob)(o:Obj)(l5:Own)(F:Nat->Prop)(bs:List Nat)(w:World):Prop where
 hp:Hp (Fw F x.l w) l5 w H
 slots:∀ t,Rel (Fw F x.l w) l5 w (lk t T) (x.tmps.getD t undef)
 bs:∀ b,b∈bs↔b=x.l\/∃ id hd,l5 id=some hd/\b∈hd.bs
 ids:∀ id hd,dI id=some hd->∃ hd',l5 id=some hd'/\hd.like hd'
 nl:¬F x.l
 rcd:w.heap[x.l]? =some o
 le:n0<=H.length
variable {x:ava}{n0:Nat}
theorem Pack.loc{T:List (Nat×SV)}{dI:Own}{H:List Ob}{o:Obj}{l5:Own}{F F':Nat->Prop}{bs:List Nat}{w w':World}(h:Pack x T dI n0 H o l5 F bs w)(X:w.heap.size<=w'.heap.size)
  (hb:∀ b,b<w.heap.size->¬F b->w'.heap[b]? =w.heap[b]?) (Y:∀ b,b<w.heap.size->F' b->F b):Pack x T dI n0 H o l5 F' bs w':=by
 have hl:=wj h.rcd;have hc:atS (Fw F x.l w) l5 w (Fw F' x.l w') l5 w':=⟨λ_ hd e=>⟨hd,e,.refl _⟩,λb O hn=>⟨λho=>hn (ho.imp (λq=>q.imp (λ⟨q1,_⟩ =>⟨Y b O q1,O⟩) (λe=>e)) (λe=>e)),hb b O λW=>hn (.inl (.inl ⟨W,O⟩))⟩⟩;have hob:∀ id hd b,l5 id=some hd->b∈hd.bs->w'.heap[b]? =w.heap[b]?:=λid hd b e E=>hb b (h.hp.lt id hd b e E) λW=>h.hp.apart id hd b e E (.inl ⟨W,h.hp.lt id hd b e E⟩);refine⟨⟨h.hp.dom,λb V=>?_,λid hd b e E V=>?_,h.hp.inj,λid hd b e E=>aqi (h.hp.lt id hd b e E) X,λid hdd=>?_⟩,λt=>(h.slots t).carry hc,h.bs,h.ids,λW=>h.nl (Y _ hl W),by rw[hb _ hl h.nl];exact h.rcd,h.le⟩;rcases V with⟨_,q⟩ |rfl <;>grind;have hlt:=h.hp.lt id hd b e E;rcases V with⟨q,_⟩ |q;exact h.hp.apart id hd b e E (.inl ⟨Y b hlt q,hlt⟩);exact h.hp.apart id hd b e E (.inr q);have⟨hd,e1,e2⟩:=h.hp.obs id hdd;exact⟨hd,e1,e2.carry hc X λb E=>hob id hd b e1 E⟩
def psT:List Nat->List SV->List (Nat×SV)
 |p::ps,s::r=>(p,s)::psT ps r|_,_=>[]
def itQ {σ:Type}(T:List (Nat×SV))(Hx:σ->List Ob)(I:Nat->σ->Prop)(S:Ex->σ->Prop)(n0 k:Nat):Ex->St->Prop
 | .normal,st=>∃ y js,I (k+1) y/\n0<=(Hx y).length/\Sub js n0 ⟨T,st.h⟩ ⟨T,Hx y⟩| .exit j,st=>∃ y js,S (.exit j) y/\n0<=(Hx y).length/\Sub js n0 ⟨T,st.h⟩ ⟨T,Hx y⟩| .ret,st=>∃ y js,S .ret y/\n0<=(Hx y).length/\Sub js n0 ⟨T,st.h⟩ ⟨T,Hx y⟩| .pan _,_=>False
def Tr:Ex->Option Code
 | .exit j=>some (.exit j)| .ret=>some .ret|_=>none
def itR {σ:Type}(x:ava)(T:List (Nat×SV))(dI:Own)(n0:Nat)(Hx:σ->List Ob)(I:Nat->σ->Prop)(S:Ex->σ->Prop):Nat->Res
 |0=>{ yv:=.func (.yield x.l) #[] #[],n:=0,R:=λF bs w=>∃ e y l5,S e y/\(Tr e).isSome=true/\Pack x T dI n0 (Hx y) (x.obj .done (Tr e)) l5 F bs w,loc:=λF F' bs w w' ⟨e,y,l5,h0,h1,h2⟩ hsz hb hF=>⟨e,y,l5,h0,h1,h2.loc hsz hb hF⟩}
 |k+1=>{ yv:=.func (.yield x.l) #[] #[],n:=k+1,R:=λF bs w=>∃ y l5,I k y/\Pack x T dI n0 (Hx y) (x.obj .ready none) l5 F bs w,loc:=λF F' bs w w' ⟨y,l5,h0,h2⟩ hsz hb hF=>⟨y,l5,h0,h2.loc hsz hb hF⟩}
def aeL{σ:Type}{T:List (Nat×SV)}{dI:Own}{E:σ->List Ob}{I:Nat->σ->Prop}{S:Ex->σ->Prop}:∀ k,(itR x T dI n0 E I S k).n=k/\(itR x T dI n0 E I S k).yv=.func (.yield x.l) #[] #[]
 |0=>⟨rfl,rfl⟩|_+1=>⟨rfl,rfl⟩
theorem YZ:∀ (E:List Nat) (args:List SV) (T:List (Nat×SV)) (tmps:Array Value) (vs:List Value) (t:Nat) {F:Nat->Prop} {own:Own} {w:World},E.Nodup->(∀ p∈E,p<tmps.size)->args.length=E.length->vs.length=E.length->
  (∀ (j:Nat) (s:SV) (v:Value),args[j]? =some s->vs[j]? =some v->Rel F own w s v)->Rel F own w (lk t T) (tmps.getD t undef)->Rel F own w (lk t (psT E args++T)) (((E.zip vs).foldl (λtmps (t,a) =>tmps.setIfInBounds t a) tmps).getD t undef)
 | [],args,T,tmps,vs,t,_,_,_,_,_,V,_,_,W=>by
  cases args with
  |nil=>exact W|cons=>simp at V
 |p::E,[],T,tmps,vs,t,_,_,_,_,_,V,_,_,_=>by simp at V
 |p::E,s::args,T,tmps,[],t,_,_,_,_,_,_,X,_,_=>by simp at X
 |p::E,s::args,T,tmps,v::vs,t,F,own,w,hn,hp,V,X,hr,W=>by
  rw[aqQ]at hn;have O:∀ (l:List (Nat×Value)) (tm:Array Value),(∀ x∈l,x.1≠p)->(l.foldl (λtmps (t,a) =>tmps.setIfInBounds t a) tm).getD p undef=tm.getD p undef:=by
   intro l;induction l with
   |nil=>grind
   |cons y r ih=>
    simp_all <;>grind
  simp only[List.zip_cons_cons,List.foldl_cons,psT,aqB];rw[t9];by_cases Y:p=t
  subst Y;rw[O _ _ λx hx=>by
   have:=List.of_mem_zip hx;grind]
  simp[aqC,Array.getElem?_setIfInBounds];rw[if_pos (hp p (by simp))];exact hr 0 s v rfl rfl;rw[if_neg Y];refine YZ E args T (tmps.setIfInBounds p v) vs t hn.2 (λq hq=>XN) XN XN (λj s v h1 h2=>hr (j+1) s v XN XN) ?_;simp_all
theorem WG (l:List (Nat×Value)):∀ (E:Array Value),(l.foldl (λtmps (t,a) =>tmps.setIfInBounds t a) E).size=E.size:=by
 induction l <;>grind
theorem agF(X:P.follows .mixedOrders=true)(hts:ts.ok P)(hG:atj P G){σ:Type}{T:List (Nat×SV)}{dI:Own}{Hx:σ->List Ob}{I:Nat->σ->Prop}{S:Ex->σ->Prop}{items:List (List SV)}
  (hsz:x.tmps.size=N) (hn0:∀ id hd,dI id=some hd->id<n0) (hpn:x.ps.toList.Nodup) (hpN:∀ p∈x.ps.toList,p<N) (hca:db N x.assign=true) (hcb:db N x.body=true)
  (avg:∀ k y args,items[k]? =some args->I k y->args.length=x.ps.size/\∃ L Qx,(∀ l,ak P (some l) N L x.assign)/\(∀ l,ak P (some l) N L x.body)/\(∀ e st,Qx e st->itQ T Hx I S n0 k e st)/\exec ts G L x.assign ⟨psT x.ps.toList args++T,Hx y⟩ (λe st1=>e=.normal/\exec ts G L x.body st1 Qx)):
  YOk P (itY items (itR x T dI n0 Hx I S)):=by
 intro args rr c hc hpre F bs w vs hR hF hbs hvs;simp only[itY,aqd]at hc;subst hc;obtain⟨h1,h2,h3⟩:=hpre;generalize hk:rr.n=kk at h1 h2 h3;obtain⟨k,rfl⟩:∃ k,kk=k+1:=⟨kk - 1,XM⟩;simp only[as8]at h3;subst h1;obtain⟨y,l5,hI,pk⟩:=hR;obtain⟨hal,L,Qx,hla,hlb,hQx,hex⟩:=avg k y args h3 hI;have hvl:vs.size=x.ps.size:=by rw[hvs.1];exact hal
 have hl:=wj pk.rcd;right;have hpfs:∀ b,Fw F x.l w b->b<w.heap.size:=λb hb=>pk.hp.atu b hb;refine⟨x.l,x.fn,(x.ps.zip vs).foldl (λtmps (t,a) =>tmps.setIfInBounds t a) x.tmps,x.assign,x.body,?_,roundIn_of_wpIn trivial ?_⟩;show(Wt (.func (.yield x.l) #[] #[]) vs).run P w=_;have hy:=run_yield (P:=P) (w:=w) (l:=x.l) (args:=vs) pk.rcd hvl;grind [Wt,Deferred.ofValue,invoke]
 ·
  generalize htm:(x.ps.zip vs).foldl (λtmps (t,a) =>tmps.setIfInBounds t a) x.tmps=tmps';have hFw:∀ b,F b->Fw F x.l w b:=λb hb=>.inl ⟨hb,hF b hb⟩;have hargs:atP (Fw F x.l w) l5 w args vs:=⟨hvs.1,λj s hj=>(hvs.2 j s hj).atF (rU (hvs.2 j s hj)) λb hb ho=>hb (by
   left;rcases ho with(⟨q,_⟩ |q) | ⟨id,hd,e,X⟩;exact .inl q;exact .inr ((pk.bs b).2 (.inl q));exact .inr ((pk.bs b).2 (.inr ⟨id,hd,e,X⟩)))⟩
  have hstart:ati (Fw F x.l w) { w:=w,own:=l5} N l5 ⟨psT x.ps.toList args++T,Hx y⟩ { tmps:=tmps',defers:=[]} w:=by
   refine⟨?_,Dfr.nil,pk.hp,Fr.refl { w:=w,own:=l5},λt=>?_⟩;rw[<-htm,<-as9,WG];exact hsz;rw[<-htm,<-as9,Array.toList_zip];refine YZ x.ps.toList args T x.tmps vs.toList t hpn (λp hp=>XN) XM XM (λj s v h1 h2=>?_) (pk.slots t);have:=hargs.2 j s h1;simp_all
  refine wpIn_mono (ut (ro:=some x.l) (nd:=0) X hts hG x.assign hca (hla x.l) _ _ _ hex l5 _ w hstart) ?_;intro e a1 w1 hq;cases e with
  |normal=>
   obtain⟨F1,own1,st1,hF1,O,_,hex1⟩:=hq;have hl1:F1 x.l:=hF1 _ (.inr rfl);have hno1:∀ id hd,l5 id=some hd->x.l ∉ hd.bs:=λid hd e X=>pk.hp.apart id hd _ e X (.inr rfl);have hrec1:w1.heap[x.l]? =some (x.obj .ready none):=by
    rw[O.fr.block x.l ⟨hl,λ⟨id,hd,e,X⟩ =>hno1 id hd e X⟩];exact pk.rcd
   refine⟨w1.putObj x.l (x.obj .busy none),run_beginRound hrec1 rfl,?_⟩;have g1:at4 F1 own1 w1 own1 (w1.putObj x.l (x.obj .busy none)):=⟨λ_ hd e=>⟨hd,e,.refl _⟩,λb _ hn=>⟨hn,World.putObj_heap_other λe=>hn (.inl (e▸hl1))⟩,by simp⟩;have hst2:ati F1 { w:=w.putObj x.l (x.obj .busy none),own:=l5} N own1 st1 a1 (w1.putObj x.l (x.obj .busy none)):=by
    refine⟨O.size,?_,O.hp.aub g1 λid hd b e X=>World.putObj_heap_other λe'=>O.hp.apart id hd b e X (e'▸hl1),⟨O.fr.ids,λid hd b e X ho=>O.fr.base id hd b e X ⟨by have:=ho.1;simp_all,ho.2⟩,O.fr.os,O.fr.tape,O.fr.output,by simpa using O.fr.size,λb hb=>?_⟩,λt=>(O.slots t).mono g1⟩;have⟨ms,Ds,q0,q1,q2,q3⟩:=O.defers;refine⟨ms,Ds,q0,q1,q2,λD hD=>⟨by simp_all,(q3 D hD).2.1,?_⟩⟩;grind [World.putObj_heap_other]
    by_cases e:b=x.l
    grind [World.putObj_heap_same]
    rw[World.putObj_heap_other e,World.putObj_heap_other e];exact O.fr.block b ⟨by have:=hb.1;simp_all,hb.2⟩
   refine wpIn_mono (ut (ro:=some x.l) (nd:=0) X hts hG x.body hcb (hlb x.l) _ _ _ hex1 own1 _ _ hst2) ?_;intro e a2 w2 hq
   replace hq:=xl hQx _ _ _ hq
   have key:∀ (F2:Nat->Prop) (X1:Own) (st2:St) (y2:σ) (js:List Nat) (b:Bool) (V:Option Code),(∀ c,F1 c->F2 c)->ati F2 { w:=w.putObj x.l (x.obj .busy none),own:=l5} N X1 st2 a2 w2->n0<=(Hx y2).length->Sub js n0 ⟨T,st2.h⟩ ⟨T,Hx y2⟩->b=V.isNone->
     (∀ E bs' w3,Pack x T dI n0 (Hx y2) (x.obj (if V.isNone then .ready else .done) V) E F bs' w3->(itR x T dI n0 Hx I S (if b then k+1+1 else 0)).R F bs' w3)->
     ∃ v w3,(Instr.endRound x.l V).run P w2=.ok v w3/\∃ a bs',True/\(Ending.returned v)=.returned (.bool ((a,itR x T dI n0 Hx I S (if a then k+1+1 else 0)):Bool×Res).1)/\(itR x T dI n0 Hx I S (if a then k+1+1 else 0)).R F bs' w3/\(itR x T dI n0 Hx I S (if a then k+1+1 else 0)).yv=.func (.yield x.l) #[] #[]/\YFr bs bs' w w3:=by
    intro F2 X1 st2 y2 js b V hF2 W hle Y hb hR3;subst hb;have hl2:F2 x.l:=hF2 _ hl1;have hrec2:w2.heap[x.l]? =some (x.obj .busy none):=by
     rw[W.fr.block x.l ⟨by simpa using hl,λ⟨id,hd,e,X⟩ =>hno1 id hd e X⟩];exact World.putObj_heap_same hl
    have hsz2:w.heap.size<=w2.heap.size:=by have:=W.fr.size;simp_all
    have hl2s:=aqi hl hsz2;have⟨q1,q2,q3,q4⟩:=Tl Y W.hp hle;let E:=jx js (Hx y2) X1
    let w3:=w2.putObj x.l (x.obj (if V.isNone then .ready else .done) V)
    have hF2w:∀ c,Fw F x.l w3 c->F2 c:=λc hc=>by
     rcases hc with⟨hc,_⟩ |rfl <;>grind
    have hoth:∀ c,c≠x.l->w3.heap[c]? =w2.heap[c]?:=λc hc=>World.putObj_heap_other hc;have hcar:atS F2 E w2 (Fw F x.l w3) E w3:=⟨λ_ hd e=>⟨hd,e,.refl _⟩,λc hcl hn=>⟨λho=>hn (ho.imp (hF2w c) (λe=>e)),hoth c λe=>hn (.inl (e▸hl2))⟩⟩;have hblk:∀ c,c<w.heap.size->c≠x.l->(¬ ∃ id hd,l5 id=some hd/\c∈hd.bs)->w2.heap[c]? =w.heap[c]?:=λc h1 h2 h3=>by
     rw[W.fr.block c ⟨by simpa using h1,h3⟩];exact World.putObj_heap_other h2
    have hown2:∀ id hd c,X1 id=some hd->c∈hd.bs->(∃ id hd,l5 id=some hd/\c∈hd.bs)\/w.heap.size<=c:=λid hd c e X=>by
     have:=W.fr.base id hd c e X;by_cases hc:c<w.heap.size
     exact .inl (aqH λhn=>this ⟨by simpa using hc,hn⟩);omega
    have gall:at4 (Fw F x.l w) l5 w X1 w2:=⟨W.fr.ids,λc hcl hn=>by
     have h2:c≠x.l:=λe=>hn (.inl (.inr e));have h3:¬ ∃ id hd,l5 id=some hd/\c∈hd.bs:=λh=>hn (.inr h);refine⟨?_,hblk c hcl h2 h3⟩;rintro (hf| ⟨id,hd,e,X⟩);exact hn (.inl hf);grind,hsz2⟩
    have hcar2:atS (Fw F x.l w) E w2 (Fw F x.l w3) E w3:=⟨λ_ hd e=>⟨hd,e,.refl _⟩,λc hcl hn=>⟨λho=>hn (ho.imp (λhc=>by
     rcases hc with⟨hc,_⟩ |rfl;grind
     exact .inr rfl) (λe=>e)),hoth c λe=>hn (.inl (.inr e))⟩⟩
    have hpk:Pack x T dI n0 (Hx y2) (x.obj (if V.isNone then .ready else .done) V) E F (x.l::acR E (Hx y2).length) w3:=by
     refine⟨⟨q1.dom,λc hc=>?_,λid hd c e X hc=>q1.apart id hd c e X (hF2w c hc),q1.inj,λid hd c e X=>by have:=q1.lt id hd c e X;simpa[w3]using this,λid hdd=>?_⟩,λt=>?_,λc=>?_,λid hd e=>?_,pk.nl,World.putObj_heap_same hl2s,hle⟩;rcases hc with⟨_,hc⟩ |rfl;exact hc;simpa[w3]using hl2s;have⟨hd,e1,e2⟩:=q1.obs id hdd;exact⟨hd,e1,e2.carry hcar (by simp[w3]) λc X=>hoth c λe=>q1.apart id hd c e1 X (e▸hl2)⟩;rcases GJ t _ Y.2.1 with e| ⟨e1,e2⟩;rw[e];exact .any _;have h1:=(pk.slots t).mono gall;have h1':Rel (Fw F x.l w) X1 w2 (ren (Hm js) 5 (lk t T)) (x.tmps.getD t undef):=e1▸h1;exact(q3 (Fw F x.l w) 5 _ _ e2 h1').carry hcar2;rw[aqg,H4 q1.dom];have⟨hd1,e1,l1⟩:=pk.ids id hd e;have⟨hd2,e2,l2⟩:=W.fr.ids id hd1 e1;have⟨hd3,e3,l3⟩:=q4 id hd2 (hn0 id hd e) e2;exact⟨hd3,e3,(l1.trans l2).trans l3⟩
    refine⟨_,w3,run_endRound V hrec2,V.isNone,_,trivial,rfl,hR3 _ _ _ hpk,(aeL _).2,W.fr.os,W.fr.tape,W.fr.output,by simpa[w3]using hsz2,λc hc hn=>?_,λc hc=>?_⟩;have h2:c≠x.l:=λe=>hn ((pk.bs c).2 (.inl e));rw[hoth c h2];exact hblk c hc h2 λh=>hn ((pk.bs c).2 (.inr h));rcases aqg.1 hc with rfl|hc;exact⟨by simpa[w3]using hl2s,.inl ((pk.bs _).2 (.inl rfl))⟩;have⟨id,hd,e,X⟩:=(H4 q1.dom c).1 hc;refine⟨by have:=q1.lt id hd c e X;simpa[w3]using this,?_⟩;have⟨_,j,hd0,_,e2,_,e4⟩:=j6 e;have⟨_,rfl⟩:=e4 c X;rcases hown2 j hd c e2 X with h|h;exact .inl ((pk.bs c).2 (.inr h));omega
   cases e with
   |normal=>
    have⟨F2,X1,st2,h0,W,y2,js,hI2,hle,Y⟩:=hq;exact key F2 X1 st2 y2 js true none h0 W hle Y rfl λE bs' w3 hp=>⟨y2,E,hI2,hp⟩
   |ret=>
    have⟨F2,X1,st2,h0,W,y2,js,hS2,hle,Y⟩:=hq;exact key F2 X1 st2 y2 js false (some .ret) h0 W hle Y rfl λE bs' w3 hp=>⟨.ret,y2,E,hS2,rfl,hp⟩
   |exit j=>
    have⟨F2,X1,st2,h0,W,y2,js,hS2,hle,Y⟩:=hq;exact key F2 X1 st2 y2 js false (some (.exit j)) h0 W hle Y rfl λE bs' w3 hp=>⟨.exit j,y2,E,hS2,rfl,hp⟩
   |panic ch=>have⟨x',F2,X1,st2,_,_,h,_⟩:=hq;exact h.elim|_=>exact hq.elim
  |exit j=>have⟨F1,own1,st1,_,_,h,_⟩:=hq;cases h|ret=>have⟨F1,own1,st1,_,_,h,_⟩:=hq;cases h|panic ch=>have⟨x',F1,own1,st1,_,_,⟨h,_⟩,_⟩:=hq;cases h|_=>exact hq.elim
end
section
variable {P:Program}{w0:Bs}{ts:Tis}{G:Cons}{L:yS}{N:Nat}
def ww (a:List Nat)(h:List Ob):List Ob:=bu h (a.map λb=>(b,Ob.dead))
theorem Mb (h:List Ob)(id:Nat):∀ (ids:List Nat) (h:List Ob),aq (ww ids h) id=if id∈ids then .dead else aq h id
 | [],h=>by rfl
 |a::r,h=>by
  have E:=Mb h id r (cO h a .dead);have e:ww (a::r) h=ww r (cO h a .dead):=rfl;rw[e,E];by_cases h1:id∈r
  simp[h1];rw[dM];grind
def Ts (a:List Nat)(i:Nat):Option Nat:=(Bz i a).map (· +1)
def Qr (a:List Nat)(h:List Ob):List Ob:=a.map λi=>xT (Ts a) (aq h i)
def lB (a:St)(b:List SV):List Nat:=reach a.h 64 (b.flatMap (fV 3)) []
def acS (a:at8)(b:Nat)(e:Ex)(c:St):Prop:= ∃ r js,a.post r/\a.ex r=e/\b<=(a.out r).h.length/\Sub js b c (a.out r)
theorem acT {F:Nat->Prop}{own:Own}{st:St}{a:Act}{w:World}(hr:ati F w0 N own st a w)(x:Operand):Rel F own w (raw st.t x) (a.eval x):=by
 cases x with
 |tmp t=>exact hr.slots t|const v=>exact .v v
 |func f=>exact .fn rfl rfl (λj s h=>by simp at h) (λj s h=>by simp at h)
 |global g=>exact .any _
theorem Qs (O:P.follows .mixedOrders=true)(hts:ts.ok P)(hG:atj P G){id:Nat}{g:Operand}{ps:Array Tmp}{assign body:Code}{C:St->Option at8}
  (hpn:ps.toList.Nodup) (hpN:∀ p∈ps.toList,p<N) (hca:db N assign=true) (hcb:db N body=true)
  (h:∀ st lc,C st=some lc->lc.pre->∃ (f:FuncId) (caps:List SV) (items:List (List SV)) (σ:Type) (T:List (Nat×SV)) (Hx:σ->List Ob) (I:Nat->σ->Prop) (S:Ex->σ->Prop) (x0:σ) (js:List Nat),
   raw st.t g=.fn f [] caps/\I 0 x0/\st.h.length<=(Hx x0).length/\Sub js st.h.length ⟨st.t,ww (lB st caps) st.h⟩ ⟨T,Hx x0⟩/\
   CK P f (λy=>y::caps.map (ren (Ts (lB st caps)) 3)) (Qr (lB st caps) st.h) items/\
   (∀ k y args,items[k]? =some args->I k y->args.length=ps.size/\∃ L Qx,(∀ l,ak P (some l) N L assign)/\(∀ l,ak P (some l) N L body)/\(∀ e st',Qx e st'->itQ T Hx I S st.h.length k e st')/\exec ts G L assign ⟨psT ps.toList args++T,Hx y⟩ (λe st1=>e=.normal/\exec ts G L body st1 Qx))/\
   (∀ y,I items.length y->acS lc st.h.length .normal ⟨T,Hx y⟩)/\(∀ y,S .ret y->acS lc st.h.length .ret ⟨T,Hx y⟩)/\
   ∀ j y,S (.exit j) y->acS lc st.h.length (if j=id then .normal else .exit j) ⟨T,Hx y⟩):mB P none N id (.rangeFunc g ps assign body) C:=by
 intro nd F w0 st lc hC hpre own a w hr;obtain⟨f,caps,items,σ,T,Hx,I,S,x0,js,hg,hI0,hle0,hsub0,hit,avg,hN,hRet,hEx⟩:=h st lc hC hpre;have aun:=acT hr g;rw[hg]at aun;generalize hev:a.eval g=gv at aun;cases aun with
 | @fn _ _ _ us lb Y e2 e3 e4=>
  have hus:us= #[]:=by
   grind
  subst hus;have hcaps:atP F own w caps lb:=⟨e2,e4⟩;have auR:∀ i∈lB st caps,∃ hd,own i=some hd:=Av hr.hp 64 _ [] (λi hi=>by
   have⟨x,hx,hxi⟩:=arL.1 hi;have⟨j,hj⟩:=aqX hx;exact NE 3 x _ (hcaps.2 j x hj) i hxi) (λi hi=>by cases hi)
  have hnd:(lB st caps).Nodup:=tE st.h 64 _ [] arz;generalize hidsE:lB st caps=ids at auR hnd hsub0 hit;refine wpIn_block (wpIn_rangeFunc λfn _=>?_);let rc:ava:=⟨w.heap.size+1,fn,a.tmps,ps,assign,body,w.heap.size⟩
  let yv:Value:=.func (.yield (w.heap.size+1)) #[] #[]
  obtain⟨W,hW1⟩:∃ W,(w.alloc (.deferred (some []))).alloc (rc.obj .ready none)=W:=⟨_,rfl⟩;have hsz1:W.heap.size=w.heap.size+2:=by grind [SH]
  have hold:∀ b,b<w.heap.size->W.heap[b]? =w.heap[b]?:=λb hb=>by
   grind [tx]
  have hl1:W.heap[w.heap.size+1]? =some (rc.obj .ready none):=by
   have:=lW (w.alloc (.deferred (some []))) (rc.obj .ready none);simp_all
  have hD1:W.heap[w.heap.size]? =some (.deferred (some [])):=by
   rw[<-hW1,tx _ _ _ (by simp_all)];exact lW w _
  refine⟨w.heap.size+1,[{ target:=.collected w.heap.size,args:= #[]}],W,{ target:=.fn (.func f) lb,args:= #[yv]},W,f,#[yv]++lb,W,?_,?_,λ_ _=>trivial,?_,λh=>(by cases h),?_⟩;rw[<-hW1];exact run_enterLoop_outer _ _ _ _ _;simp[resolve,hev];simp[go_sem,yv];simp[go_sem,hit.1];let own_s:Own:=λi=>if i∈ids then(own i).map (λhd=>{ hd with bs:=[]})else own i
  let F1:Nat->Prop:=λb=>F b\/b=w.heap.size\/b=w.heap.size+1\/∃ i hd,i∈ids/\own i=some hd/\b∈hd.bs
  have hs1:∀ i hd,own_s i=some hd->∃ hd0,own i=some hd0/\hd0.like hd/\∀ b∈hd.bs,i ∉ ids/\hd=hd0:=λi hd e=>by
   by_cases hi:i∈ids
   simp[own_s,if_pos hi,arn]at e;obtain⟨hd0,Y,rfl⟩:=e;exact⟨hd0,Y,⟨rfl,rfl,rfl⟩,λb hb=>by cases hb⟩;simp[own_s,if_neg hi]at e;exact⟨hd,e,.refl _,λb _=>⟨hi,rfl⟩⟩
  have hs2:∀ i hd,own i=some hd->∃ hd',own_s i=some hd'/\hd.like hd':=λi hd e=>by
   grind
  have hcar1:atS F own w F1 own_s W:=⟨hs2,λb hb hn=>⟨by
   rintro ((hf|hf|hf| ⟨i,hd,_,e,O⟩) | ⟨i,hd,e,O⟩);exact hn (.inl hf);omega;omega;exact hn (.inr ⟨i,hd,e,O⟩);have⟨hd0,e0,_,Y⟩:=hs1 i hd e;have⟨_,rfl⟩:=Y b O;exact hn (.inr ⟨i,hd,e0,O⟩),hold b hb⟩⟩
  have hp1:Hp F1 own_s W (ww ids st.h):=by
   refine⟨λi hd e=>?_,λb hb=>?_,λi hd b e O hb=>?_,λi j hi hj b Y e2 h1 h2=>?_,λi hd b e O=>?_,λi V=>?_⟩;have⟨hd0,e0,_⟩:=hs1 i hd e;exact aqi (hr.hp.dom i hd0 e0) (BG _ _);rcases hb with hf|hf|hf| ⟨i,hd,_,e,O⟩;have:=hr.hp.atu b hf;omega;omega;omega;have:=hr.hp.lt i hd b e O;omega;have⟨hd0,e0,_,Y⟩:=hs1 i hd e;have⟨hni,rfl⟩:=Y b O;have hlt:=hr.hp.lt i hd b e0 O;rcases hb with hf|hf|hf| ⟨i2,X,h1,h2,h3⟩;exact hr.hp.apart i hd b e0 O hf;omega;omega;exact hni (hr.hp.inj i i2 hd X b e0 h2 O h3▸h1);have⟨hd1,k1,_,k2⟩:=hs1 i hi Y;have⟨X,k3,_,k4⟩:=hs1 j hj e2;have⟨_,rfl⟩:=k2 b h1;have⟨_,rfl⟩:=k4 b h2;exact hr.hp.inj i j hi hj b k1 k3 h1 h2;have⟨hd0,e0,_,Y⟩:=hs1 i hd e;have⟨_,rfl⟩:=Y b O;have:=hr.hp.lt i hd b e0 O;omega;rw[Mb st.h i ids st.h]at V |-;by_cases hi:i∈ids
   rw[if_pos hi]at V;cases V;rw[if_neg hi]at V |-;have⟨hd,Y,e2⟩:=hr.hp.obs i V;exact⟨hd,XN,e2.carry hcar1 XM λb O=>hold b (hr.hp.lt i hd b Y O)⟩
  obtain⟨q1,q2,q3,q4⟩:=Tl hsub0 hp1 hle0;change Hp F1 (jx js (Hx x0) own_s) W (Hx x0)at q1;generalize hown0:jx js (Hx x0) own_s=own_0 at q1 q2 q3 q4;have h0s:∀ i hd b,own_0 i=some hd->b∈hd.bs->∃ j,j ∉ ids/\own j=some hd:=λi hd b e O=>by
   rw[<-hown0]at e;have⟨_,j,hd0,_,e2,_,e4⟩:=j6 e;grind
  have hslot1:∀ t,Rel F1 own_0 W (lk t T) (a.tmps.getD t undef):=λt=>by
   rcases GJ t _ hsub0.2.1 with e| ⟨Y,e2⟩;rw[e];exact .any _;have h1:=(hr.slots t).carry hcar1;grind
  let bs0:List Nat:=(w.heap.size+1)::acR own_0 (Hx x0).length
  have hbs0:∀ b,b∈bs0↔b=w.heap.size+1\/∃ i hd,own_0 i=some hd/\b∈hd.bs:=λb=>by
   rw[aqg,H4 q1.dom]
  let Ff:Nat->Prop:=λb=>F b\/b=w.heap.size
  let own_f:Own:=λi=>match i with|0=>some ⟨none,yv,[],bs0⟩ |i+1=>(ids[i]?).bind own
  have hf1:∀ i hd,own_f (i+1)=some hd->∃ j,ids[i]? =some j/\own j=some hd:=λi hd e=>by
   grind
  have hffo:∀ b,dn Ff own_f b->(F b\/b=w.heap.size\/b=w.heap.size+1)\/∃ i hd,own i=some hd/\b∈hd.bs:=by
   rintro b ((hf|hf) | ⟨i,hd,e,O⟩) <;>grind
  let Fs:Nat->Prop:=λb=>F b\/b=w.heap.size\/b=w.heap.size+1
  have hcar0:atS F own w Fs own W:=⟨λ_ hd e=>⟨hd,e,.refl _⟩,λb hb hn=>⟨by
   rintro ((hf|hf|hf) |ho);exact hn (.inl hf);omega;omega;exact hn (.inr ho),hold b hb⟩⟩
  have hrn:Rn (Ts ids) own own_f:=⟨λi j hd O e=>by
   unfold Ts at O;rw[arn]at O;obtain⟨k,hk,rfl⟩:=O;refine⟨hd,?_,.refl _⟩;show(ids[k]?).bind own=some hd;rw[rV ids i k hk];exact e⟩
  have hsh:∀ b,¬dn Fs own b->¬dn Ff own_f b:=λb hn ho=>hn (hffo b ho);let F':Nat->Prop:=λb=>dn Ff own_f b/\b ∉ bs0
  have hF'1:∀ b,Fw F' rc.l W b->F1 b:=by
   rintro b (⟨⟨ho,hn⟩,_⟩ |hb);rcases ho with(hf|hf) | ⟨i,hd,e,O⟩ <;>grind;grind
  have hcarP:atS F1 own_0 W (Fw F' rc.l W) own_0 W:=⟨λ_ hd e=>⟨hd,e,.refl _⟩,λb _ hn=>⟨λho=>hn (ho.imp (hF'1 b) (λe=>e)),rfl⟩⟩;have hpk:Pack rc T own st.h.length (Hx x0) (rc.obj .ready none) own_0 F' bs0 W:=by
   refine⟨⟨q1.dom,λb hb=>q1.atu b (hF'1 b hb),λi hd b e O hb=>q1.apart i hd b e O (hF'1 b hb),q1.inj,q1.lt,λi V=>?_⟩,λt=>(hslot1 t).carry hcarP,hbs0,λi hd e=>?_,λhf=>hf.2 ((hbs0 _).2 (.inl rfl)),hl1,hle0⟩;have⟨hd,Y,e2⟩:=q1.obs i V;exact⟨hd,Y,e2.carry hcarP (aqb _) λ_ _=>rfl⟩;have⟨hd1,k1,l1⟩:=hs2 i hd e;have⟨X,k2,l2⟩:=q4 i hd1 (hr.hp.dom i hd e) k1;exact⟨X,k2,l1.trans l2⟩
  have hpf:Hp Ff own_f W (.ab (itR rc T own st.h.length Hx I S 1)::Qr ids st.h):=by
   refine⟨λi hd e=>?_,λb hb=>?_,λi hd b e O hb=>?_,λi j hi hj b Y e2 h1 h2=>?_,λi hd b e O=>?_,λi V=>?_⟩;grind [Qr]
   rcases hb with hf|hf;have:=hr.hp.atu b hf;omega;omega;have hnot:∀ i hd,own i=some hd->b∈hd.bs->False:=λi hd e O=>by
    rcases hb with hf|hf;exact hr.hp.apart i hd b e O hf;have:=hr.hp.lt i hd b e O;omega
   cases i with
   |zero=>
    cases e;rcases(hbs0 b).1 O with h| ⟨i,hd,e,O⟩;rcases hb with hf|hf;have:=hr.hp.atu b hf;omega;omega;grind
   |succ i=>grind
   have hmix:∀ i hd,own_f (i+1)=some hd->b∈hd.bs->b∈bs0->False:=λi hd e O h0=>by
    have⟨j,k1,k2⟩:=hf1 i hd e;rcases(hbs0 b).1 h0 with h| ⟨i2,X,e2,hm2⟩;have:=hr.hp.lt j hd b k2 O;omega;have⟨j2,k3,k4⟩:=h0s i2 X b e2 hm2;exact k3 (hr.hp.inj j2 j X hd b k4 k2 hm2 O▸aql k1)
   cases i with
   |zero=>
    grind
   |succ i=>
    cases j with
    |zero=>grind
    |succ j=>
     have⟨k,k1,k2⟩:=hf1 i hi Y;have⟨k',k3,k4⟩:=hf1 j hj e2;have:=hr.hp.inj k k' hi hj b k2 k4 h1 h2;grind [uQ]
   rcases hffo b (.inr ⟨i,hd,e,O⟩)with(h|h|h) | ⟨j,X,k,hm2⟩;have:=hr.hp.atu b h;omega;omega;omega;have:=hr.hp.lt j X b k hm2;omega;cases i with
   |zero=>exact⟨_,rfl,rfl,x0,own_0,hI0,hpk⟩
   |succ i=>
    have hob:aq (.ab (itR rc T own st.h.length Hx I S 1)::Qr ids st.h) (i+1)=aq (Qr ids st.h) i:=rfl;rw[hob]at V |-;rw[xW]at V |-;unfold Qr at V |-;rw[are]at V |-;cases hi:ids[i]? with
    |none=>grind [dT]
    |some j=>
     rw[hi]at V;simp[ar6,Option.getD_some]at V |-;rw[x8]at V;have⟨hd,Y,e2⟩:=hr.hp.obs j V;refine⟨hd,XN,?_⟩;have e3:atY Fs own W hd (aq st.h j):=e2.carry hcar0 XM λb O=>hold b (hr.hp.lt j hd b Y O);refine HJ hrn hsh (λb _ ho=>?_) e3;grind
  have hvs:atP Ff own_f W (.os 0::caps.map (ren (Ts ids) 3)) (#[yv]++lb):=by
   refine⟨XN,λj s hj=>?_⟩;cases j with
   |zero=>
    simp at hj;subst hj;have:(#[yv]++lb).getD 0 undef=yv:=by simp[aqC];rw[aqv (by simp)];rfl
    rw[this];exact Rel.os (hd:=⟨none,yv,[],bs0⟩) rfl rfl
   |succ j=>
    obtain⟨s0,k1,rfl⟩:=sI hj;have:(#[yv]++lb).getD (j+1) undef=lb.getD j undef:=by
     simp[aqC];rw[arw (by simp)];simp
    rw[this];exact GG hrn hsh 3 s0 _ ((e4 j s0 k1).carry hcar0)
  refine CallsIn.mono (oK (hit.2 (itR rc T own st.h.length Hx I S) (λk=>(aeL k).1) (agF O hts hG hr.size (λi hd e=>hr.hp.dom i hd e) hpn hpN hca hcb avg) Ff own_f W _ hpf hvs)) ?_;rintro e w3 ⟨u,l5,j,h',rfl,hj,hp3,fr3⟩;have⟨hd0,e0,hv0,hR⟩:=hp3.obs 0 rfl;have hl3:∀ {y E o},Pack rc T own st.h.length (Hx y) o E (λb=>dn Ff l5 b/\b ∉ hd0.bs) hd0.bs w3->w3.heap[w.heap.size+1]? =some o:=λpk=>pk.rcd;have fin:∀ y E s p,Pack rc T own st.h.length (Hx y) (rc.obj s p) E (λb=>dn Ff l5 b/\b ∉ hd0.bs) hd0.bs w3->
    ati Fs w0 N E ⟨T,Hx y⟩ { a with defers:=[{ target:=.collected w.heap.size,args:= #[]}]++a.defers} (w3.putObj (w.heap.size+1) (rc.obj .exhausted p)):=by
   intro y E s p pk;have hsz3:=fr3.size;have hsz3':W.heap.size<=w3.heap.size:=hsz3;have hoth:∀ c,c≠w.heap.size+1->(w3.putObj (w.heap.size+1) (rc.obj .exhausted p)).heap[c]? =w3.heap[c]?:=λc hc=>World.putObj_heap_other hc;have hownE:∀ i hd b,E i=some hd->b∈hd.bs->b∈hd0.bs/\b≠w.heap.size+1:=λi hd b e O=>⟨(pk.bs b).2 (.inr ⟨i,hd,e,O⟩),λe'=>pk.hp.apart i hd b e O (.inr e')⟩;have hnF:∀ b,b∈hd0.bs->¬Ff b:=λb hb hf=>hp3.apart 0 hd0 b e0 hb hf;have hFsFw:∀ b,Fs b->Fw (λb=>dn Ff l5 b/\b ∉ hd0.bs) rc.l w3 b:=λb hb=>by
    rcases hb with hf|hf|hf;exact .inl ⟨⟨.inl (.inl hf),λO=>hnF b O (.inl hf)⟩,hp3.atu b (.inl hf)⟩;exact .inl ⟨⟨.inl (.inr hf),λO=>hnF b O (.inr hf)⟩,hp3.atu b (.inr hf)⟩;exact .inr hf
   have hcarE:atS (Fw (λb=>dn Ff l5 b/\b ∉ hd0.bs) rc.l w3) E w3 Fs E (w3.putObj (w.heap.size+1) (rc.obj .exhausted p)):=⟨λ_ hd e=>⟨hd,e,.refl _⟩,λb _ hn=>⟨λho=>hn (ho.imp (hFsFw b) (λe=>e)),hoth b λe=>hn (.inl (.inr e))⟩⟩;have hkeep:∀ b,b<w.heap.size->(¬ ∃ i hd,own i=some hd/\b∈hd.bs)->w3.heap[b]? =w.heap[b]?:=λb hb hn=>by
    rw[fr3.block b ⟨by show b<W.heap.size;omega,λ⟨i,hd,e,O⟩ =>?_⟩];exact hold b hb;cases i with
    |zero=>
     cases e;rcases(hbs0 b).1 O with h| ⟨i,hd,e,O⟩;omega;have⟨j,_,k⟩:=h0s i hd b e O;exact hn ⟨j,hd,k,O⟩
    |succ i=>have⟨j,_,k⟩:=hf1 i hd e;exact hn ⟨j,hd,k,O⟩
   have hD3:w3.heap[w.heap.size]? =some (.deferred (some [])):=by
    rw[fr3.block w.heap.size ⟨by show w.heap.size<W.heap.size;omega,λ⟨i,hd,e,O⟩ =>hpf.apart i hd _ e O (.inr rfl)⟩];exact hD1
   refine⟨hr.size,?_,⟨pk.hp.dom,λb hb=>?_,λi hd b e O hb=>pk.hp.apart i hd b e O (hFsFw b hb),pk.hp.inj,λi hd b e O=>by have:=pk.hp.lt i hd b e O;simpa using this,λi V=>?_⟩,hr.fr.trans ⟨pk.ids,λi hd b e O ho=>?_,fr3.os.trans (by rw[<-hW1];rfl),fr3.tape.trans (by rw[<-hW1];rfl),fr3.output.trans (by rw[<-hW1];rfl),by simp;omega,λb hb=>?_⟩,λt=>(pk.slots t).carry hcarE⟩;have⟨ms,Ds,k0,k1,k2,k3⟩:=hr.defers;refine⟨{ target:=.collected w.heap.size,args:= #[]}::ms,w.heap.size::Ds,by simp[k0],by simp[k1],aqQ.2 ⟨λO=>?_,k2⟩,λD hD=>?_⟩;have:=wj (k3 _ O).2.2;omega;rcases aqg.1 hD with rfl|hD;exact⟨hr.fr.size,.inr (.inl rfl),by rw[hoth _ XM];exact hD3⟩;have⟨m1,m2,m3⟩:=k3 D hD;have hlt:=wj m3;exact⟨m1,.inl m2,by rw[hoth _ XM,hkeep D hlt λ⟨i,hd,e,O⟩ =>hr.hp.apart i hd D e O m2];exact m3⟩;have:=pk.hp.atu b (hFsFw b hb);simpa using this;have⟨hd,Y,e2⟩:=pk.hp.obs i V;exact⟨hd,Y,e2.carry hcarE (by simp) λb O=>hoth b (hownE i hd b Y O).2⟩;have h1:=fr3.base 0 hd0 b e0 (hownE i hd b e O).1;refine h1 ⟨by show b<W.heap.size;have:=ho.1;change b<w.heap.size at this;omega,λ⟨i2,X,e2,hm2⟩ =>?_⟩;cases i2 with
   |zero=>
    cases e2;rcases(hbs0 b).1 hm2 with h| ⟨i3,hd3,e3,hm3⟩;exact(hownE i hd b e O).2 h;have⟨j,_,k⟩:=h0s i3 hd3 b e3 hm3;exact ho.2 ⟨j,hd3,k,hm3⟩
   |succ i2=>have⟨j,_,k⟩:=hf1 i2 X e2;exact ho.2 ⟨j,X,k,hm2⟩
   have hblt:b<w.heap.size:=hb.1;rw[hoth b XM];exact hkeep b hblt hb.2
  have fin2:∀ y E s p ex,Pack rc T own st.h.length (Hx y) (rc.obj s p) E (λb=>dn Ff l5 b/\b ∉ hd0.bs) hd0.bs w3->acS lc st.h.length ex ⟨T,Hx y⟩->
    ∃ F3 avI st3,(∀ b,F b->F3 b)/\ati F3 w0 N avI st3 { a with defers:=[{ target:=.collected w.heap.size,args:= #[]}]++a.defers} (w3.putObj (w.heap.size+1) (rc.obj .exhausted p))/\∃ r,lc.post r/\ex=lc.ex r/\st3=lc.out r:=by
   rintro y E s p ex pk ⟨r,js2,m1,m2,m3,m4⟩;exact⟨Fs,_,_,λb hb=>.inl hb,(fin y E s p pk).sub m4 hr.auA m3,r,m1,m2.symm,rfl⟩
  rcases hj with rfl|rfl;have⟨ex,y,E,hS,hjm,pk⟩:=hR;refine⟨Tr ex,_,run_endLoop (P:=P) (hl3 pk) (by simp[ava.obj]),?_⟩;cases ex with
  |normal=>cases hjm|pan x=>cases hjm|ret=>exact wpIn_ret (fin2 y E _ _ .ret pk (hRet y hS))
  |exit jj=>
   refine wpIn_exit ?_;have h2:=fin2 y E _ _ _ pk (hEx jj y hS);show if jj=id then _ else _;by_cases hjj:jj=id
   rw[if_pos hjj]at h2 |-;exact h2;rw[if_neg hjj]at h2 |-;exact h2
  have⟨y,E,hIy,pk⟩:=hR;exact⟨none,_,run_endLoop (P:=P) (hl3 pk) (by simp[ava.obj]),fin2 y E _ _ .normal pk (hN y hIy)⟩
end
def okI {ρ σ:Type}(step:Nat->σ->ρ⊕σ)(p:Nat->σ->Prop):Nat->Nat->σ->Prop
 |0,_,_=>True|n+1,i,s=>p i s/\∀ s',step i s=.inr s'->okI step p n (i+1) s'
theorem eu {ρ σ:Type}{step:Nat->σ->ρ⊕σ}{p:Nat->σ->Prop}:∀ (n i:Nat) (s:σ),(∀ j s,i<=j->j<i+n->p j s)->okI step p n i s
 |0,_,_,_=>trivial
 |n+1,i,s,h=>⟨h i s (aqb _) XM,λs' _=>eu n (i+1) s' λj s h1 h2=>h j s XM XM⟩
theorem gq {ρ σ:Type}{step:Nat->σ->ρ⊕σ}{p:Nat->σ->Prop}(J:Nat->σ->Prop):∀ (n i:Nat) (s:σ),J i s->(∀ j s,i<=j->j<i+n->J j s->p j s/\∀ s',step j s=.inr s'->J (j+1) s')->okI step p n i s
 |0,_,_,_,_=>trivial
 |n+1,i,s,h0,h=>⟨(h i s (aqb _) XM h0).1,λs' E=>gq J n (i+1) s' ((h i s (aqb _) XM h0).2 s' E) λj s h1 h2=>h j s XM XM⟩
theorem vt {ρ σ:Type}{step:Nat->σ->ρ⊕σ}(J:Nat->σ->Prop):∀ (n i:Nat) (s:σ),J i s->(∀ j s,i<=j->j<i+n->J j s->∀ s',step j s=.inr s'->J (j+1) s')->∀ r,aj step n i s=.inr r->J (i+n) r
 |0,i,s,h0,_,r,hr=>by grind [aj]
 |n+1,i,s,h0,h,r,hr=>by
  simp[aj]at hr;cases E:step i s with
  |inl x=>grind
  |inr s'=>
   rw[E]at hr;have:=vt J n (i+1) s' (h i s (aqb _) XM h0 s' E) (λj s h1 h2=>h j s XM XM) r hr;grind
section
variable {P:Program}{ρ σ:Type}
def U5 (D:Nat->σ->St)(js:List Nat)(n0 k:Nat)(st:St):ρ⊕σ->Prop
 | .inl _=>False| .inr s'=>n0<=(D (k+1) s').h.length/\Sub js n0 st (D (k+1) s')
def exQ (exE:ρ->Ex)(Y2:ρ->St)(js:List Nat)(n0:Nat)(e:Ex)(st:St):ρ⊕σ->Prop
 | .inl x=>exE x=e/\n0<=(Y2 x).h.length/\Sub js n0 st (Y2 x)| .inr _=>False
def cQ (step:Nat->σ->ρ⊕σ)(n:Nat)(exE:ρ->Ex)(Y2:ρ->St)(atw:σ->St)(D:Nat->σ->St)(js:List Nat)(n0 id k:Nat)(s:σ):Ex->St->Prop
 | .normal,st=>k<n/\U5 D js n0 k st (step k s)| .exit j,st=>bif Nat.beq j id then(n<=k->n0<=(atw s).h.length/\Sub js n0 st (atw s))/\(k<n->exQ exE Y2 js n0 .normal st (step k s))else k<n/\exQ exE Y2 js n0 (.exit j) st (step k s)| .ret,st=>k<n/\exQ exE Y2 js n0 .ret st (step k s)| .pan x,st=>k<n/\exQ exE Y2 js n0 (.pan x) st (step k s)
variable {step:Nat->σ->ρ⊕σ}{n n0 id k j:Nat}{exE:ρ->Ex}{Y2:ρ->St}{atw:σ->St}{D:Nat->σ->St}{js:List Nat}{s s':σ}{st:St}{x:Value}{e:Ex}{y:ρ}
@[go_sem] def ajK:= @U5.eq_2
@[go_sem] def aoh:= @exQ.eq_1
@[go_sem] def ajL:= @cQ.eq_1
@[go_sem] def aoi:= @cQ.eq_2
@[go_sem] def aoZ:= @cQ.eq_3
@[go_sem] def ao0:= @cQ.eq_4
variable {r r':ρ⊕σ}
@[congr] theorem aeM(h:r=r'):U5 D js n0 k st r=U5 D js n0 k st r':=by rw[h]
@[congr] theorem ajM(h:r=r'):exQ exE Y2 js n0 e st r=exQ exE Y2 js n0 e st r':=by rw[h]
@[congr] theorem alB {st st':St}{e e':Ex}(h:st=st')(he:e=e'):cQ step n exE Y2 atw D js n0 id k s e st=cQ step n exE Y2 atw D js n0 id k s e' st':=by rw[h,he]
theorem DY {ts:Tis}{G:Cons}{ro:Option Nat}{N:Nat}(hm:P.follows .mixedOrders=true)(hts:ts.ok P)(hG:atj P G){id:Nat}{c:Code}(hc:db N c=true){C:St->Option at8}
  (h:∀ st Y,C st=some Y->Y.pre->∃ (ρ σ:Type) (pre:Prop) (step:Nat->σ->ρ⊕σ) (p:Nat->σ->Prop) (n:Nat) (s0:σ) (exE:ρ->Ex) (Y2:ρ->St) (atw:σ->St) (D:Nat->σ->St) (js:List Nat),
   Y=LC pre (aj step n 0 s0) exE Y2 atw/\okI step p n 0 s0/\st.h.length<=(D 0 s0).h.length/\Sub js st.h.length st (D 0 s0)/\
   ∀ k s,k<=n->(k<n->p k s)->∃ L,ak P ro N L c/\exec ts G L c (D k s) (cQ step n exE Y2 atw D js st.h.length id k s)):mB P ro N id (.loop c) C:=by
 refine zG hm hts hG hc λst Y hC hp=>?_;obtain⟨ρ,σ,pre,step,p,n,s0,exE,Y2,atw,D,js,rfl,h1,h2,h3,h4⟩:=h st Y hC hp;refine⟨Nat×σ,λx=>D x.1 x.2,λx=>x.1<=n/\okI step p (n - x.1) x.1 x.2/\aj step (n - x.1) x.1 x.2=aj step n 0 s0,λx=>n - x.1,(0,s0),js,⟨aqq _,XM,by simp⟩,h2,h3,?_⟩;rintro⟨k,s⟩ ⟨hk,hJ,E⟩;have⟨L,hl,hex⟩:=h4 k s hk (λhlt=>by
  rw[show n - k=(n - k - 1)+1 by omega]at hJ;exact hJ.1)
 refine⟨L,_,hl,?_,hex⟩;have V:∀ e st',k<n->exQ exE Y2 js st.h.length e st' (step k s)->∃ r js,(LC pre (aj step n 0 s0) exE Y2 atw).post r/\(LC pre (aj step n 0 s0) exE Y2 atw).ex r=e/\st.h.length<=((LC pre (aj step n 0 s0) exE Y2 atw).out r).h.length/\Sub js st.h.length st' ((LC pre (aj step n 0 s0) exE Y2 atw).out r):=by
  intro e st' hlt q;cases O:step k s with
  |inr s'=>rw[O]at q;exact q.elim
  |inl x=>
   rw[O]at q;have⟨q2,q3,q4⟩:=q;rw[show n - k=(n - k - 1)+1 by omega]at E;simp[aj,O]at E;exact⟨.inl x,js,E,q2,q3,q4⟩
 intro e st' W;cases e with
 |normal=>
  have⟨q1,q2⟩:=W;cases O:step k s with
  |inl x=>rw[O]at q2;exact q2.elim
  |inr s'=>
   rw[O]at q2;rw[show n - k=(n - (k+1))+1 by omega]at E hJ;simp[aj,O]at E;exact⟨(k+1,s'),js,⟨q1,hJ.2 s' O,E⟩,XN,q2.1,q2.2⟩
 |exit j=>
  have X:(bif Nat.beq j id then(n<=k->st.h.length<=(atw s).h.length/\Sub js st.h.length st' (atw s))/\(k<n->exQ exE Y2 js st.h.length .normal st' (step k s))else k<n/\exQ exE Y2 js st.h.length (.exit j) st' (step k s)):=W;show bif Nat.beq j id then _ else _;cases hb:Nat.beq j id with
  |true=>
   rw[hb]at X;by_cases hlt:k<n
   grind
   have⟨q3,q4⟩:=X.1 XM;have hkn:k=n:=XM
   subst hkn;simp[ar0]at E;exact⟨.inr s,js,E,rfl,q3,q4⟩
  |false=>grind
 |ret=>exact V _ _ W.1 W.2|pan x=>exact V _ _ W.1 W.2
end
def cB {ρ σ:Type}[Inhabited σ]:ρ⊕σ->σ| .inr s=>s| .inl _=>default
def dY {ρ σ:Type}[Inhabited ρ]:ρ⊕σ->ρ| .inl s=>s| .inr _=>default
def Y0 {ρ σ:Type}[Inhabited σ]{s:σ}:cB (ρ:=ρ) (.inr s)=s:=(rfl)
def Y3 {ρ σ:Type}[Inhabited ρ]{s:ρ}:dY (σ:=σ) (.inl s)=s:=(rfl)
attribute[go_sem]Y0 Y3
theorem U6 {k:Nat}{n:Int}(h:k<n.toNat)(hn:n<9223372036854775808):i64.wrap ((k:Int)+1)=((k+1:Nat):Int):=by
 grind [ar]
def AT (pks:List Pk):SV->SV
 | .tup l=>.tup (Cg pks l)
 |s=>match pks with| [p] =>DG p s|_=>s
section
variable {F:Nat->Prop}{own:Own}{w:World}
theorem Qt {pks:List Pk}{s:SV}{v:Value}(h:Rel F own w s v):Rel F own w (AT pks s) v:=by
 unfold AT;split
 cases h with
 |tup V h1=>
  refine .tup (by rw[H2];exact V) λj s W=>?_;obtain⟨s0,O,E| ⟨p,E⟩⟩:=H3 _ _ _ _ W;subst E;exact h1 j _ O;subst E;exact H1 (h1 j _ O)
 split
 exact H1 h;exact h
@[go_sem] def alC:= @AT.eq_1
variable {p:Pk}
def alD{l:List SV}:AT [p] (.agg l)=DG p (.agg l):=(rfl)
def ao1{x:Value}:AT [p] (.v x)=DG p (.v x):=(rfl)
def aoj{k:Tag}{l:List k.T}:AT [p] (.rs k l)=DG p (.rs k l):=(rfl)
def aok{k a:Tag}{l:List (k.T×a.T)}:AT [p] (.rm k a l)=DG p (.rm k a l):=(rfl)
def aol:AT [p] .e0=DG p .e0:=(rfl)
attribute[go_sem]alD ao1 aoj aok aol
end
section
variable {P:Program}{ts:Tis}{G:Cons}
theorem DZ (pks:List Pk)(hm:P.follows .mixedOrders=true)(hts:ts.ok P)(hG:atj P G){f:FuncId}{fn:Func}{c:Code}(hf:P.funcs[f]? =some fn)(hb:fn.body=some c)(Y:(fn.name== "runtime.NumGoroutine")=false)
  (hc:db fn.ntmps c=true) {C:FI}
  (h:∀ l O,C l=some O->an O->l.length<=fn.ntmps/\∃ L,ak P none fn.ntmps L c/\exec ts G L c ⟨pZ 0 l,[]⟩ (Hn false fn.results.toList ts (λs=>et O (AT pks s)) (lA O))):P0 P f C:=by
 refine⟨λl O _ args w=>?_,λl O avu hpre F w vs hF hvs=>?_⟩;have hn:¬fn.name= "runtime.NumGoroutine":=by simpa using Y
 simp[callFunc,hf,hn,hb];have⟨hlen,L,hl,hx⟩:=h l O avu hpre;refine vo (n:=0) (callsIn_of_wp_marks hf hb trivial ?_);have hr:ati F { w:=w,own:=dI} fn.ntmps dI ⟨pZ 0 l,[]⟩ { tmps:=vs++Array.replicate (fn.ntmps - vs.size) undef,defers:=[]} w:=
  ⟨by have:=hvs.1;simp;omega,Dfr.nil,CJ hF,Fr.refl _,λt=>tH hvs _ t⟩
 refine wpIn_mono (ut hm hts hG c hc hl F _ _ hx dI _ w hr) ?_;intro e a' w' hq;have key:∀ X own st,(∀ b,F b->X b)->ati X { w:=w,own:=dI} fn.ntmps own st a' w'->jw (λs=>et O (AT pks s)) (Hk false fn.results.toList ts st)->LeavesInM (rd none) 0 P fn a'.tmps
   (λe w'=>(∃ s u l5,et O s/\e=.returned u/\Handed F w l5 w' s u/\Below w.heap.size w w')\/(∃ x,lA O x/\e=.panicked [{ v:=x,recovered:=false}]/\Below w.heap.size w w')) a'.defers .returning w':=by
  intro X own st hF1 hst E;refine oL hst (by simp) λw2 W=>?_;have V:=W.less hF1 rfl;simp[Hk,Hj]at E;cases hs:v_ (t7 ts st fn.results.toList)with
  |none=>rw[hs]at E;exact E.elim
  |some s=>
   have⟨u,e1,e2⟩:=CI (P:=P) hts V hs;refine⟨u,e1,.inl ?_⟩;rw[hs]at E;exact⟨_,u,dI,E,rfl,zF V.hp.atu (Qt (CF V.hp 4 s u e2)),tG V.fr⟩
 cases e with
 |normal=>have⟨X,own,st,h0,h1,h2⟩:=hq;exact key X own st h0 h1 h2|ret=>have⟨X,own,st,h0,h1,h2⟩:=hq;exact key X own st h0 h1 h2|exit id=>have⟨X,own,st,h0,h1,h2⟩:=hq;exact h2.elim
 |panic ch=>
  obtain⟨x,X,own,st,h0,h1,h2,rfl⟩:=hq;exact oL h1 (by simp) λw2 W=>.inr ⟨x,h2,rfl,tG W.fr⟩
 |_=>exact hq.elim
end
theorem BH {o:Ob}(E:Uz o=false):∀ (h:List Ob) (i:Nat),qB h=false->qB (cO h i o)=false
 | [],0,_=>by simp[cO,qB,E]
 | [],n+1,_=>by simp[cO,qB,Uz,BH E [] n rfl]
 |a::r,0,h=>by grind [qB,cO]
 |a::r,n+1,h=>by simp[qB,aqt]at h;simp[cO,qB,h.1,BH E r n h.2]
def aeN (P:Program)(g:FuncId)(C:Value->Option SV):Prop:=
 (∀ (args:Array Value) (w:World),(callFunc g args).run P w=.ok (.enter g args) w)/\
 (∀ (p:Addr) (w:World),CallsDIn (rd none) 0 P g #[.pointer (some p)] .returning w (λe u' w'=>(∃ v,e=.returned v)/\u'=.returning/\w'=w))/\
 ∀ (x:Value) (s:SV),C x=some s->∀ (F:Nat->Prop) (own:Own) (w:World) (h:List Ob) (id:Nat) (hd:Hd) (b:Nat) (y:SV),qB h=false->Hp F own w h->aq h id=.cells [y]->own id=some hd->hd.p=some b->
  CallsDIn (rd none) 0 P g #[.pointer (some ⟨b,0,none⟩)] (.panicking [{ v:=x,recovered:=false}]) w (λe u' w'=>(∃ v,e=.returned v)/\u'=.panicking [{ v:=x,recovered:=true}]/\∃ l5,Hp F l5 w' (cO h id (.cells [s]))/\Fr { w:=w,own:=own} l5 w')
section
variable {P:Program}{ts:Tis}{G:Cons}
theorem NR {n:Nat}{g:FuncId}{i1 t3 q:Nat}{o1 o2:Oper}{tys:Array TypeId}{Q:Exit->Act->World->Prop}{a:Act}{w:World}{b:Nat}
  (W:o1.dst=some t3/\o1.op=.makeFunc (.func g) #[] #[.tmp q]/\o1.guard=none) (O:o2.dst=none/\o2.op=.defer ⟨.value (.tmp t3),#[],tys⟩/\o2.guard=none)
  (hq:a.tmps.getD q undef=.pointer (some ⟨b,0,none⟩)) (ht3:t3<a.tmps.size)
  (h:Q .normal { tmps:=a.tmps.setIfInBounds t3 (.func (.func g) #[] #[.pointer (some ⟨b,0,none⟩)]),defers:= { target:=.fn (.func g) #[.pointer (some ⟨b,0,none⟩)],args:= #[]}::a.defers} w):
  (Code.region i1 #[o1,o2] false).wpIn (rd none) n P Q a w:=by
 have⟨d1,p1,t1,s1,f1,g1⟩:=o1;have⟨d2,p2,t2,s2,f2,g2⟩:=o2;obtain⟨rfl,rfl,rfl⟩:=W;obtain⟨rfl,rfl,rfl⟩:=O;refine wpIn_region ?_;have E:(a.tmps.setIfInBounds t3 (.func (.func g) #[] #[.pointer (some ⟨b,0,none⟩)])).getD t3 undef=.func (.func g) #[] #[.pointer (some ⟨b,0,none⟩)]:=by
  simp_all
 have V:List.range (#[(⟨some t3,.makeFunc (.func g) #[] #[.tmp q],t1,s1,f1,none⟩:Oper),(⟨none,.defer ⟨.value (.tmp t3),#[],tys⟩,t2,s2,f2,none⟩:Oper)]:Array Oper).size=[0,1]:=rfl;rw[V];simp only[wpOpsIn];have e1:(#[(⟨some t3,.makeFunc (.func g) #[] #[.tmp q],t1,s1,f1,none⟩:Oper),(⟨none,.defer ⟨.value (.tmp t3),#[],tys⟩,t2,s2,f2,none⟩:Oper)]:Array Oper)[0]? =some ⟨some t3,.makeFunc (.func g) #[] #[.tmp q],t1,s1,f1,none⟩:=rfl;have X:(#[(⟨some t3,.makeFunc (.func g) #[] #[.tmp q],t1,s1,f1,none⟩:Oper),(⟨none,.defer ⟨.value (.tmp t3),#[],tys⟩,t2,s2,f2,none⟩:Oper)]:Array Oper)[1]? =some ⟨none,.defer ⟨.value (.tmp t3),#[],tys⟩,t2,s2,f2,none⟩:=rfl;rw[e1,X];refine⟨λ_ _=>trivial,?_⟩;have r1:((⟨some t3,.makeFunc (.func g) #[] #[.tmp q],t1,s1,f1,none⟩:Oper).semAt (rd none).round a.eval).run P w=.ok (.value (.func (.func g) #[] #[.pointer (some ⟨b,0,none⟩)])) w:=by
  simp[go_sem,hq];try rfl
 rw[r1];refine⟨λ_ _=>trivial,?_⟩;have Y:((⟨none,.defer ⟨.value (.tmp t3),#[],tys⟩,t2,s2,f2,none⟩:Oper).semAt (rd none).round (a.put (some t3) (.func (.func g) #[] #[.pointer (some ⟨b,0,none⟩)])).eval).run P w=.ok (.defer { target:=.fn (.func g) #[.pointer (some ⟨b,0,none⟩)],args:= #[]}) w:=by
  simp[go_sem,E];try rfl
 rw[Y];exact h
theorem Tt {F:Nat->Prop}{w0:Bs}{ro:Option Nat}{nd N:Nat}(hm:P.follows .mixedOrders=true)(Y:ts.ok P)(hG:atj P G){id:Nat}{ops:Array Oper}(hc:db N (.region id ops false)=true){st:St}{Q:St->Prop}{L:yS}(hx:exec ts G L (.region id ops false) st (λe st=>e=.normal/\Q st))
  {own:Own} {a:Act} {w:World} (hr:ati F w0 N own st a w):(Code.region id ops false).wpIn (rd ro) nd P (λe a w=>e=.normal/\∃ own st,ati F w0 N own st a w/\Q st) a w:=by
 have E:Hi (E7 ts G ops false st) (λe st=>e=.normal/\Q st) (L (id+2000000) st):=hx;have key:∀ Q:Ex->St->Prop,(∀ x st,¬Q (.pan x) st)->E7 ts G ops false st Q->(Code.region id ops false).wpIn (rd ro) nd P (λe a w=>e=.normal/\∃ own st,ati F w0 N own st a w/\Q .normal st) a w:=by
  intro Q O E;simp only[db,ap9]at hc;have⟨h1,h2⟩:=hc;have V:=Ys h1;have⟨l⟩:=ops;refine wpIn_region_list ?_;exact S7 (K:=λst'=>Q .normal (Cr l st')) (Z:=λx st'=>Q (.pan x) st') Y hG V (λx own st a w h1 h2=>(O x _ h2).elim) l 0 own st a w rfl (hr.start l λk hk=>XM) E λown st a w hi hk=>⟨rfl,own,_,ati.finish hi,hk⟩
 cases W:L (id+2000000) st with
 |none=>
  rw[W]at E;refine wpIn_mono (key (λe st=>e=.normal/\Q st) (λx st h=>(by cases h.1)) E) λe a w ⟨h1,own,st,h2,X⟩ =>⟨h1,own,st,h2,X.2⟩
 |some lc=>
  rw[W]at E;refine wpIn_mono (key (akr lc λe st=>e=.normal/\Q st) (λx st h=>(by cases h.1)) E.1) λe a w ⟨h1,own,st,h2,r,X,h4,h5⟩ =>⟨h1,own,_,h2.auQ h4 h5,(E.2 r X).2⟩
def Y4:Ob->Prop
 | .cells [_] =>True|_=>False
theorem Y5 {o:Ob}(h:Y4 o):∃ y,o=.cells [y]:=by
 unfold Y4 at h;grind
def agG (rs:List ResultVar)(ts:Tis)(post:SV->Prop)(id:Nat)(st:St):Option SV->Prop
 |some s=>Y4 (aq st.h id)/\qB st.h=false/\jw post (Hj rs ts ⟨st.t,cO st.h id (.cells [s])⟩)|none=>False
def acU (C:Value->Option SV)(rs:List ResultVar)(ts:Tis)(post:SV->Prop)(id:Nat):Ex->St->Prop
 | .exit _,_=>False| .normal,st=>jw post (Hj rs ts st)| .ret,st=>jw post (Hj rs ts st)| .pan x,st=>agG rs ts post id st (C x)
@[go_sem] def agH:= @Y4.eq_1
@[go_sem] def ajN:= @agG.eq_1
section
variable {C:Value->Option SV}{rs:List ResultVar}{ts:Tis}{post:SV->Prop}{id:Nat}{st:St}{x:Value}
@[go_sem] def aeO:= @acU.eq_2
@[go_sem] def alE:= @acU.eq_3
@[go_sem] def alF:= @acU.eq_4
end
def WH:Code->Code| .seq a _=>a|c=>c
def Tu:Code->Code| .seq _ b=>b|c=>c
def awG:Code->Nat| .region i _ _=>i|_=>0
def alG (i:Nat):Code->Oper| .region _ ops _=>ops.getD i default|_=>default
theorem agI {g:FuncId}{RC:Value->Option SV}(avJ:aeN P g RC)(pks:List Pk)(hm:P.follows .mixedOrders=true)(hts:ts.ok P)(hG:atj P G){f:FuncId}{fn:Func}{c0 c1:Code}{i1 t3 q:Nat}{o1 o2:Oper}{tys:Array TypeId}
  (hf:P.funcs[f]? =some fn) (hb:fn.body=some (.seq c0 (.seq (.region i1 #[o1,o2] false) c1))) (hname:(fn.name== "runtime.NumGoroutine")=false)
  (ho1:o1.dst=some t3/\o1.op=.makeFunc (.func g) #[] #[.tmp q]/\o1.guard=none) (ho2:o2.dst=none/\o2.op=.defer ⟨.value (.tmp t3),#[],tys⟩/\o2.guard=none) (ht3:t3<fn.ntmps)
  (hc0:db fn.ntmps c0=true) (hc1:db fn.ntmps c1=true) {C:FI}
  (h:∀ l W,C l=some W->an W->l.length<=fn.ntmps/\∃ L L' id,ak P none fn.ntmps L c0/\ak P none fn.ntmps L' c1/\exec ts G L c0 ⟨pZ 0 l,[]⟩ (λe st=>e=.normal/\lk q st.t=.ptr id 0/\Y4 (aq st.h id)/\
   exec ts G L' c1 ⟨(t3,.any)::st.t,st.h⟩ (acU RC fn.results.toList ts (λs=>et W (AT pks s)) id))):P0 P f C:=by
 refine⟨λl W _ args w=>?_,λl W avu hpre F w vs hF hvs=>?_⟩;simp_all [callFunc]
 ·have⟨hlen,L,L',id,hl,hl',hx⟩:=h l W avu hpre;refine vo (n:=0) (callsIn_of_wp_marks hf hb trivial ?_);have hr:ati F { w:=w,own:=dI} fn.ntmps dI ⟨pZ 0 l,[]⟩ { tmps:=vs++Array.replicate (fn.ntmps - vs.size) undef,defers:=[]} w:=
   ⟨by have:=hvs.1;simp;omega,Dfr.nil,CJ hF,Fr.refl _,λt=>tH hvs _ t⟩
  refine wpIn_seq (wpIn_mono (ut hm hts hG c0 hc0 hl F _ _ hx dI _ w hr) ?_);intro e a1 w1 hq;cases e with
  |normal=>
   have⟨F1,own1,st1,hF1,hst1,_,hlk,_,hx1⟩:=hq;have hsq:=hst1.slots q;rw[hlk]at hsq;generalize hv:a1.tmps.getD q undef=pv at hsq;cases hsq with
   | @ptr _ _ b hd ho hp=>
   have hsz:=hst1.size;refine wpIn_seq (NR ho1 ho2 hv XM ?_);have⟨ms,Ds,k0,k1,k2,k3⟩:=hst1.defers;have k0':a1.defers=ms:=XN
   let d:Deferred:= { target:=.fn (.func g) #[.pointer (some ⟨b,0,none⟩)],args:= #[]}
   let B:Bs:= { w:=w1,own:=own1,ds:=d::a1.defers}
   have hr2:ati F1 B fn.ntmps own1 ⟨(t3,.any)::st1.t,st1.h⟩ { tmps:=a1.tmps.setIfInBounds t3 (.func (.func g) #[] #[.pointer (some ⟨b,0,none⟩)]),defers:=d::a1.defers} w1:=by
    refine⟨XN,Dfr.nil,hst1.hp,Fr.refl B,λt=>?_⟩;rw[t9];by_cases ht:t3=t
    rw[if_pos ht];exact .any _;have:=hst1.slots t;simp_all
   have hbd:∀ D∈Ds,¬ ∃ id hd,own1 id=some hd/\D∈hd.bs:=λD hD ⟨i,hd,e,hm⟩ =>hst1.hp.apart i hd D e hm (k3 D hD).2.1;have fin:∀ Y X1 O (a2:Act) w2,(∀ b,F1 b->Y b)->ati Y B fn.ntmps X1 O a2 w2->jw (λs=>et W (AT pks s)) (Hj fn.results.toList ts O)->
     LeavesInM (rd none) 0 P fn a2.tmps (λe w'=>(∃ s u l5,et W s/\e=.returned u/\Handed F w l5 w' s u/\Below w.heap.size w w')\/(∃ x,lA W x/\e=.panicked [{ v:=x,recovered:=false}]/\Below w.heap.size w w')) a1.defers .returning w2:=by
    intro Y X1 O a2 w2 hF2 E V;have hB:ati Y { w:=w,own:=dI} fn.ntmps X1 O { a2 with defers:=[]} w2:=⟨E.size,Dfr.nil,E.hp,hst1.fr.trans ⟨E.fr.ids,E.fr.base,E.fr.os,E.fr.tape,E.fr.output,E.fr.size,E.fr.block⟩,E.slots⟩;have hkeep:∀ D∈Ds,w2.heap[D]? =some (.deferred (some [])):=λD hD=>by
     rw[E.fr.block D ⟨wj (k3 D hD).2.2,hbd D hD⟩];grind
    rw[k0',<-aqo ms];refine DX (by simp) Ds ms w2 k1 k2 hkeep λw4 hs=>?_;have hst4:=(hB.shut (Ds:=Ds) (λD hD=>⟨(k3 D hD).1,hF2 D (k3 D hD).2.1,hkeep D hD⟩) hs).less (λc hc=>hF2 c (hF1 c hc)) rfl;simp[Hj]at V;cases hres:v_ (t7 ts O fn.results.toList)with
    |none=>rw[hres]at V;exact V.elim
    |some s=>
     have⟨u,e1,e2⟩:=CI (P:=P) hts hst4 hres;rw[hres]at V;exact⟨u,e1,.inl ⟨_,u,dI,V,rfl,zF hst4.hp.atu (Qt (CF hst4.hp 4 s u e2)),tG hst4.fr⟩⟩
   have hinv:∀ w2:World,(invoke (.fn (.func g) #[.pointer (some ⟨b,0,none⟩)]) #[]).run P w2=.ok (.enter g #[.pointer (some ⟨b,0,none⟩)]) w2:=λw2=>by simp[go_sem,avJ.1]
   refine wpIn_mono (ut hm hts hG c1 hc1 hl' F1 _ _ hx1 own1 _ w1 hr2) ?_;have idle:∀ (a':Act) (w':World) Y X1 O,(∀ b,F1 b->Y b)->ati Y B fn.ntmps X1 O a' w'->jw (λs=>et W (AT pks s)) (Hj fn.results.toList ts O)->
     LeavesInM (rd none) 0 P fn a'.tmps (λe w'=>(∃ s u l5,et W s/\e=.returned u/\Handed F w l5 w' s u/\Below w.heap.size w w')\/(∃ x,lA W x/\e=.panicked [{ v:=x,recovered:=false}]/\Below w.heap.size w w')) a'.defers .returning w':=by
    intro a' w' Y X1 O hF2 E V;refine oL E (by simp) λw2 X=>?_;refine⟨by simp,.inr ⟨λh=>(by cases h),.func g,#[.pointer (some ⟨b,0,none⟩)],g,#[.pointer (some ⟨b,0,none⟩)],rfl,hinv w2,λ_ _=>trivial,?_⟩⟩;refine(avJ.2.1 ⟨b,0,none⟩ w2).mono ?_;rintro e u' w3 ⟨⟨v,rfl⟩,rfl,rfl⟩;exact fin Y X1 O { a' with defers:=B.ds} _ hF2 X V
   intro e a' w' hq;cases e with
   |normal=>have⟨Y,X1,O,h0,h1,h2⟩:=hq;exact idle a' w' Y X1 O h0 h1 h2|ret=>have⟨Y,X1,O,h0,h1,h2⟩:=hq;exact idle a' w' Y X1 O h0 h1 h2|exit jd=>have⟨Y,X1,O,h0,h1,h2⟩:=hq;exact h2.elim
   |panic ch=>
    obtain⟨x,Y,X1,O,h0,h1,hm,rfl⟩:=hq;change agG fn.results.toList ts _ id O (RC x)at hm;cases m1:RC x with
    |none=>rw[m1]at hm;exact hm.elim
    |some s=>
    rw[m1]at hm;have⟨hm2,m4,m3⟩:=hm;have⟨y,m2⟩:=Y5 hm2;refine oL h1 (by simp) λw2 X=>?_;refine⟨by simp,.inr ⟨λh=>(by cases h),.func g,#[.pointer (some ⟨b,0,none⟩)],g,#[.pointer (some ⟨b,0,none⟩)],rfl,hinv w2,λ_ _=>trivial,?_⟩⟩;have⟨hd2,e2,l2⟩:=X.fr.ids id hd ho;refine(avJ.2.2 x s m1 Y X1 w2 O.h id hd2 b y m4 X.hp m2 e2 (l2.1.trans hp)).mono ?_;rintro e u' w3 ⟨⟨v,rfl⟩,rfl,avI,q1,q2⟩;exact fin Y avI ⟨O.t,_⟩ { a' with defers:=B.ds} w3 h0 (X.avk q1 q2) m3
   |_=>exact hq.elim
  |ret=>have⟨F1,own,st,h0,h1,h2,_⟩:=hq;cases h2|exit jd=>have⟨F1,own,st,h0,h1,h2,_⟩:=hq;cases h2|panic ch=>have⟨x,F1,own,st,h0,h1,⟨h2,_⟩,_⟩:=hq;cases h2|_=>exact hq.elim
end
end Go.Sx
end
section
namespace Go.Sx
open Go.Proofs Tryz
def kr {p:Prop}(h:p:=by kernel_rfl):p:=h
def tz:SV:=.i 0
def tn:SV:=.v (.slice none 0 0)
def tb:SV:=.v (.string (ByteArray.mk #[]))
def to:Nat×Bool:=(1,false)
def tS (e:Nat):TI:=⟨1,24,false,[tn],[],e,0,true,false,none,none,false,[],none,none,0⟩
def tM (e:Nat)(a b:Tag):TI:=⟨1,8,false,[(.v (.map none))],[],e,0,false,false,none,none,false,[],some a,some b,0⟩
def tT (n s:Nat)(z:List SV)(f:List (Nat×(Nat×Bool)))(k:Tag)(l:List Nat):TI:=⟨n,s,true,z,f,0,0,false,false,some k,none,false,l,none,none,0⟩
def ti3:TI:=⟨1,8,false,[tz],[],0,0,false,false,(some .int),(some .i64),false,[],none,none,1⟩
def ti4:TI:=⟨1,1,false,[(.v (.bool false))],[],0,0,false,false,(some .bool),none,false,[],none,none,3⟩
def ti9:TI:=⟨1,16,false,[tb],[],0,0,false,false,(some .str),none,false,[],none,none,2⟩
def agJ:TI:=tT 2 16 [tz,tz] [(0,to),(1,to)] .atx [1,1]
def agK:TI:=tS 67
def agL:TI:=tS 129
def agM:TI:=tS 199
def agN:TI:=tS 131
def agO:TI:=tS 203
def agP:TI:=tS 421
def agQ:TI:=tT 10 184 [tb,tz,tz,tz,tn,tn,tn,tn,tn,tn] [(0,to),(1,to),(2,(2,true)),(4,to),(5,to),(6,to),(7,to),(8,to),(9,to)] .al []
def agR:TI:=tS 217
def BI:TI:=⟨1,8,false,[(.v .nilFunc)],[],0,0,false,false,none,none,false,[],none,none,0⟩
def agS:TI:=⟨1,24,false,[tn],[],3,0,true,false,(some .ints),none,false,[],none,none,0⟩
def agT:TI:=tS 75
def agU:TI:=tT 5 72 [tn,tz,tz,tz,tn] [(0,to),(1,to),(2,to),(3,to),(4,to)] .refusal []
def agV:TI:=tS 58
def agW:TI:=tS 259
def agX:TI:=tT 5 40 [tz,tz,tz,tz,tz] [(0,to),(1,to),(2,to),(3,to),(4,to)] .B1 [1,1,1,1,1]
def agY:TI:=tT 2 16 [tz,tz] [(0,to),(1,to)] .range [1,1]
def agZ:TI:=tT 2 16 [tz,tz] [(0,to),(1,to)] .ratio [1,1]
def ag0:TI:=⟨4,32,true,[tz,tz,tz,tz],[],64,2,false,true,(some .at6),none,false,[],none,none,0⟩
def ag1:TI:=tT 12 104 [tb,tz,tz,tz,tz,tz,tz,tz,tz,tz,tz,tz] [(0,to),(1,to),(2,to),(3,to),(4,to),(5,to),(6,(2,true)),(8,(4,true))] .reach []
def ag2:TI:=tT 4 32 [tz,tz,tz,tz] [(0,to),(1,to),(2,to),(3,to)] .ath [1,1,1,1]
def ag3:TI:=tT 11 208 [tb,tz,tz,tz,tn,tn,tn,tn,tn,tn,tn] [(0,(10,true)),(10,to)] .P1 []
def ag4:TI:=tT 5 40 [tz,tz,tz,tz,tz] [(0,to),(1,to),(2,to),(3,to),(4,to)] .fault [1,1,1,1,1]
def Qu:TI:=tM 3 .atv .int
def Y6:TI:=⟨2,16,true,[tz,(.v .nilFunc)],[(0,to),(1,to)],0,0,false,false,none,none,false,[],none,none,0⟩
def Qv:TI:=⟨2,16,true,[tz,tz],[],3,2,false,true,(some .atv),none,false,[1,1],none,none,0⟩
def Y7:TI:=tS 107
def Y8:TI:=tS 119
def Y9:TI:=tT 6 48 [tz,tz,tz,tz,tz,tz] [(0,(5,true)),(5,to)] .ate [1,1,1,1,1,1]
def Y_:TI:=tS 90
def Za:TI:=tT 4 40 [tb,tz,tz,tz] [(0,to),(1,to),(2,to),(3,to)] .gl [2,1,1,1]
def Zb:TI:=tT 10 88 [tb,tz,tz,tz,tz,tz,tz,tz,tz,tz] [(0,to),(1,to),(2,to),(3,to),(4,to),(5,to),(6,to),(7,to),(8,to),(9,to)] .right [2,1,1,1,1,1,1,1,1,1]
def Zc:TI:=tM 4 .atv .bool
def Zd:TI:=tS 35
def Ze:TI:=tM 3 .int .int
def Zf:TI:=tM 4 .X2 .bool
def Zg:TI:=tT 3 24 [(.v (.map none)),(.v (.map none)),(.v (.map none))] [(0,to),(1,to),(2,to)] .atI []
def Zh:TI:=tT 2 16 [tz,tz] [(0,to),(1,to)] .X2 [1,1]
def Zi:TI:=tT 2 24 [tb,tz] [(0,to),(1,to)] .at9 [2,1]
def Zj:TI:=tT 4 40 [tb,tz,tz,tz] [(0,to),(1,to),(2,to),(3,to)] .aul [2,1,1,1]
def Zk:TI:=tS 341
def Zl:TI:=tT 9 88 [tz,tz,tz,tz,tz,tn,tz,tz,tz] [(0,to),(1,to),(2,to),(3,to),(4,to),(5,to),(6,to),(7,to),(8,to)] .C1 []
def Zm:TI:=tS 222
def Zn:TI:=tT 4 32 [tz,tz,tz,tz] [(0,to),(1,to),(2,to),(3,to)] .holding [1,1,1,1]
def Zo:TI:=⟨1,8,false,[(.v (.int .u64 0))],[],0,0,false,false,none,(some .u64),false,[],none,none,1⟩
def Zp:TI:=tM 217 .int .C1
def Zq:TI:=tT 4 32 [tz,tz,tz,(.v (.bool false))] [(0,to),(1,to),(2,to),(3,to)] .order [1,1,1,3]
def Zr:TI:=tM 3 .dd .int
def Zs:TI:=tM 4 .dd .bool
def Zt:TI:=tT 2 16 [tz,tz] [(0,to),(1,to)] .dd [1,1]
def Zu:TI:=tM 3 .u0 .int
def Zv:TI:=tT 2 16 [tz,tz] [(0,to),(1,to)] .u0 [1,1]
def Zw:TI:=⟨1,8,false,[(.v .nilFunc)],[],0,0,false,false,(some .fnc),none,false,[],none,none,0⟩
def Zx:TI:=tT 3 24 [tz,tz,tz] [(0,to),(1,(2,true))] .part [1,1,1]
def Zy:TI:=tM 4 .int .bool
def Zz:TI:=tM 359 .int .fnc
def ZA:TI:=tS 335
def ZB:TI:=⟨1,8,true,[(.v .nilFunc)],[(0,to)],0,0,false,false,none,none,false,[],none,none,0⟩
def tl:List (Nat×TI):=[(3,ti3),(4,ti4),(9,ti9),(23,agJ),(24,agK),(25,agL),(26,agM),(27,agN),(28,agO),(29,agP),(31,agQ),(32,agR),(33,BI),(35,agS),(36,agT),(38,agU),(39,ti3),(47,agV),(50,agW),(58,agX),(62,agY),(64,agZ),(65,ag0),(67,ag1),(75,ag2),(80,ag3),(90,ag4),(102,Qu),(106,BI),(107,Y6),(108,Qv),(109,Qv),(112,Y7),(115,Y8),(119,Y9),(125,Y_),(129,Za),(131,Zb),(137,BI),(138,BI),(143,BI),(144,Zc),(155,Zd),(170,Ze),(171,Zf),(173,Zg),(183,Zh),(194,ti3),(199,Zi),(203,Zj),(215,Zk),(217,Zl),(218,Zm),(222,Zn),(229,Zo),(234,BI),(248,Zp),(259,Zq),(262,Qu),(272,Zr),(273,Zs),(275,Zt),(316,Zu),(323,Zv),(335,Zw),(341,Zx),(354,Zy),(357,Zz),(373,ZA),(384,BI),(386,ZB)]
def ts:Tis:=λt=>tl.lookup t
def aeP {P:Program}:∀ {l:List (Nat×TI)},l.map (λx=>jZ P x.1)=l.map (λx=>some x.2)->Tis.ok (λt=>l.lookup t) P
 | [],_,t,i,h=>by cases h
 |(a,b)::l,e,t,i,h=>by
  simp only[aqZ,arP]at e;simp only[List.lookup_cons]at h;split at h
  rename_i q;cases h;rw[beq_iff_eq.1 q];exact e.1;exact aeP e.2 t i h
def aC:Tis.ok ts prog:=aeP kr
def awH:ts 3=some ti3:=(rfl)
def awj:ts 4=some ti4:=(rfl)
def awi:ts 9=some ti9:=(rfl)
def avR:ts 23=some agJ:=(rfl)
def awb:ts 24=some agK:=(rfl)
def awa:ts 25=some agL:=(rfl)
def awe:ts 26=some agM:=(rfl)
def avZ:ts 27=some agN:=(rfl)
def awf:ts 28=some agO:=(rfl)
def av3:ts 29=some agP:=(rfl)
def avV:ts 31=some agQ:=(rfl)
def av2:ts 32=some agR:=(rfl)
def awg:ts 33=some BI:=(rfl)
def awd:ts 35=some agS:=(rfl)
def avU:ts 36=some agT:=(rfl)
def av_:ts 38=some agU:=(rfl)
def av7:ts 39=some ti3:=(rfl)
def avK:ts 47=some agV:=(rfl)
def awc:ts 50=some agW:=(rfl)
def avO:ts 58=some agX:=(rfl)
def av1:ts 62=some agY:=(rfl)
def avT:ts 64=some agZ:=(rfl)
def av4:ts 65=some ag0:=(rfl)
def av6:ts 67=some ag1:=(rfl)
def avW:ts 75=some ag2:=(rfl)
def av8:ts 80=some ag3:=(rfl)
def avN:ts 90=some ag4:=(rfl)
def ao2:ts 102=some Qu:=(rfl)
def ao3:ts 106=some BI:=(rfl)
def ao4:ts 107=some Y6:=(rfl)
def ao5:ts 108=some Qv:=(rfl)
def ao6:ts 109=some Qv:=(rfl)
def ao7:ts 112=some Y7:=(rfl)
def ao8:ts 115=some Y8:=(rfl)
def ao9:ts 119=some Y9:=(rfl)
def ao_:ts 125=some Y_:=(rfl)
def apa:ts 129=some Za:=(rfl)
def apb:ts 131=some Zb:=(rfl)
def apc:ts 137=some BI:=(rfl)
def apd:ts 138=some BI:=(rfl)
def ape:ts 143=some BI:=(rfl)
def apf:ts 144=some Zc:=(rfl)
def apg:ts 155=some Zd:=(rfl)
def aph:ts 170=some Ze:=(rfl)
def api:ts 171=some Zf:=(rfl)
def apj:ts 173=some Zg:=(rfl)
def apk:ts 183=some Zh:=(rfl)
def apl:ts 194=some ti3:=(rfl)
def apm:ts 199=some Zi:=(rfl)
def apn:ts 203=some Zj:=(rfl)
def apo:ts 215=some Zk:=(rfl)
def apq:ts 217=some Zl:=(rfl)
def apr:ts 218=some Zm:=(rfl)
def aps:ts 222=some Zn:=(rfl)
def apt:ts 229=some Zo:=(rfl)
def apu:ts 234=some BI:=(rfl)
def apv:ts 248=some Zp:=(rfl)
def apw:ts 259=some Zq:=(rfl)
def apx:ts 262=some Qu:=(rfl)
def apy:ts 272=some Zr:=(rfl)
def apz:ts 273=some Zs:=(rfl)
def apA:ts 275=some Zt:=(rfl)
def apB:ts 316=some Zu:=(rfl)
def apC:ts 323=some Zv:=(rfl)
def apD:ts 335=some Zw:=(rfl)
def apE:ts 341=some Zx:=(rfl)
def apF:ts 354=some Zy:=(rfl)
def apG:ts 357=some Zz:=(rfl)
def apH:ts 373=some ZA:=(rfl)
def apI:ts 384=some BI:=(rfl)
def apJ:ts 386=some ZB:=(rfl)
attribute[go_sem]awH awj awi avR awb awa awe avZ awf av3 avV av2 awg awd avU av_ av7 avK awc avO av1 avT av4 av6 avW av8 avN ao2 ao3 ao4 ao5 ao6 ao7 ao8 ao9 ao_ apa apb apc apd ape apf apg aph api apj apk apl apm apn apo apq apr aps apt apu apv apw apx apy apz apA apB apC apD apE apF apG apH apI apJ
attribute [go_sem] tz tn tb to tS tM tT ti3 ti4 ti9 agJ agK agL agM agN agO agP agQ agR BI agS agT agU agV agW agX agY agZ ag0 ag1 ag2 ag3 ag4 Qu Y6 Qv Y7 Y8 Y9 Y_ Za Zb Zc Zd Ze Zf Zg Zh Zi Zj Zk Zl Zm Zn Zo Zp Zq Zr Zs Zt Zu Zv Zw Zx Zy Zz ZA ZB
def mixed:prog.follows .mixedOrders=true:=by kernel_rfl
def lY:List SV->Option Con
 | [.v (.iface t (.int .i64 e))] =>bif Nat.beq t 194 then some (.det True (.i e))else none|_=>none
def D0:P0 prog 60 lY:=by
 have hG:atj prog (mkG [] []):=qF (by simp) (by simp);refine DZ [.o] mixed aC hG (fn:=f60) (c:=aa f60) kr kr kr kr λl V h W=>?_;unfold lY at h;split at h
 rename_i t e;cases E:Nat.beq t 194 with
 |false=>rw[E]at h;cases h
 |true=>
  rw[E]at h;cases h;have O:=ap_ E;subst O;refine⟨nbl rfl,L0,by unfold aa f60;simp[ak,and_self],?_⟩;unfold aa f60;simp[go_sem,false_imp_iff,Nat.reduceBEq,and_true,implies_true,reduceCtorEq]
 cases h
def ag5:Value->Option SV
 | .iface t (.int .i64 e) =>bif Nat.beq t 194 then some (.i e)else none|_=>none
def ZC:aeN prog 59 ag5:=by
 obtain⟨fn,Y,E,hn,W⟩:∃ fn,prog.funcs[59]? =some fn/\fn.body=some (aa f59)/\fn.ntmps=7/\fn.results= #[]:=⟨f59,by kernel_rfl,by kernel_rfl,by kernel_rfl,by kernel_rfl⟩;have hG:atj prog (mkG [(60,lY)] []):=qF (by
  intro x V;simp[aqg,aq_,or_false]at V;rcases V with rfl;exact D0) (by simp)
 refine⟨λargs w=>by kernel_rfl,λp w=>?_,?_⟩;refine callsDIn_of_wpSIn Y E trivial λc₀ cs hu=>?_;unfold aa f59;refine wpSIn_seq (wpSIn_region ?_);simp[wpOpsSIn,go_sem,recoverD,hu,hn,Exit.thenS,Oper.about,Region.wanted];refine wpSIn_seq (wpSIn_region ?_);simp[wpOpsSIn,go_sem];refine wpSIn_cond (t:=false) (by simp[Act.eval]) ?_;refine wpSIn_of_wpIn rfl (wpIn_skip ?_);cases c₀;simp_all [bodyPostS,results];intro x s V F own w h id hd b y hfw hp hob ho hpb;unfold ag5 at V;split at V
 rename_i t e;cases ht:Nat.beq t 194 with
 |false=>rw[ht]at V;cases V
 |true=>
  rw[ht]at V;cases V;have ht':=ap_ ht;subst ht';refine callsDIn_of_wpSIn Y E trivial λc₀ cs hu=>?_;unfold aa f59;refine wpSIn_seq (wpSIn_region ?_);simp[wpOpsSIn,go_sem,recoverD,hu,hn,Exit.thenS,Oper.about,Region.wanted];refine wpSIn_seq (wpSIn_region ?_);simp[wpOpsSIn,go_sem,recoverD,hu,Exit.thenS,Oper.about,Region.wanted];refine wpSIn_cond (t:=true) (by simp[Act.eval]) ?_;simp only[if_true];refine wpSIn_of_wpIn rfl ?_;have hr:ati F { w:=w,own:=own} 7 own ⟨[(0,.ptr id 0),(1,.v (.iface 194 (.int .i64 e)))],h⟩ { tmps:= #[.pointer (some ⟨b,0,none⟩),.iface 194 (.int .i64 e),.iface 194 (.int .i64 e),.iface 194 (.int .i64 e),.bool true,undef,undef],defers:=[]} w:=by
   refine⟨rfl,Dfr.nil,hp,Fr.refl { w:=w,own:=own},λt=>?_⟩;rw[t9];by_cases h0:0=t
   subst h0;exact .ptr ho hpb;rw[if_neg h0,t9];by_cases h1:1=t
   subst h1;exact .v _;rw[if_neg h1];exact .any _
  refine wpIn_mono (Tt (ts:=ts) (L:=L0) (Q:=λst=>st.h=cO h id (.cells [.i e])) mixed aC hG kr ?_ hr) ?_;simp[go_sem,hob,BH (h:=h) (i:=id) (o:=.cells [.i e]) rfl hfw,lY,Nat.reduceBEq,Nat.reduceLeDiff,and_true,true_imp_iff];rintro ex a' w' ⟨rfl,X,st1,O,hh⟩;have hd0:a'.defers=[]:=by
   have⟨ms,Ds,q0,q1,q2,q3⟩:=O.defers;cases Ds with
   |nil=>rw[q0];simp at q1;simp[q1]
   |cons D r=>
    have⟨m1,m2,_⟩:=q3 D (by simp);have:=hp.atu D m2;simp at m1;omega
  refine⟨hd0,.panicking [{ v:=.iface 194 (.int .i64 e),recovered:=true}],?_,_,by simp[results,W];rfl,⟨_,rfl⟩,rfl,X,hh▸O.hp,O.fr⟩;simp_all
 cases V
attribute [go_sem] lY
end Go.Sx
end
