/- Part of the proof that the law RefuseHolds returns true and leaves its arguments as they were, for all arguments of bulk at most 1048576 (the Upto form). -/
import Derived.Test.YtaikmgjfkejlkaaGreatH101
import Derived.Attr
import Derived.Test.YtaikmgjfkejlkaaGreatH105
import Derived.RangeFuncIn
import Derived.TacticsIn
import Derived.RecoverIn
import Derived.Laws.Pointers
import Derived.Test.YtaikmgjfkejlkaaGreatProg
set_option linter.all false
set_option maxHeartbeats 4000000
set_option maxRecDepth 100000
section
namespace Go.Sx
def Rz (k:TI->OR):Option TI->OR
 |some i=>k i|none=>.bad
section
variable {ts:Tis}{G:Cons}{L:xP}{t:List (Nat×SV)}{h:List Ob}{Q:Ex->St->Prop}{K:St->Prop}{Z:Value->St->Prop}{ops rest:List Oper}{nx:Nat}
variable {st st':St}
@[congr] theorem ad4 {c:Code}(e:st=st'):exec ts G L c st Q=exec ts G L c st' Q:=by rw[e]
@[congr] theorem Z7 (e:st=st'):kw ts G ops rest st K Z=kw ts G ops rest st' K Z:=by rw[e]
variable {fps:List Fp}
@[congr] theorem acH{i b:Nat}{auu:List Fp}(e0:fps=auu)(e:st=st'):lh ts G ops K Z rest i b fps st=lh ts G ops K Z rest i b auu st':=by rw[e,e0]
variable {d:Option Nat}{r r':OR}
@[congr] theorem acI(e:r=r'):oi G d st K Z r=oi G d st K Z r':=by rw[e]
variable {g:Nat×Bool}
@[congr] theorem acJ(e:r=r'):stepG G ops g d st K Z r=stepG G ops g d st K Z r':=by rw[e]
variable {p:Prop}{r r':Option Dr}
@[congr] theorem aaZ{next:List Nat->List Up->St->Prop}(e:r=r'):AJ d st next p r=AJ d st next p r':=by rw[e]
@[congr] theorem aa0{next:List Nat->List Up->St->Prop}(e:r=r'):yx ops g d st next p r=yx ops g d st next p r':=by rw[e]
variable {x:(Ex->St->Prop)->Prop}{c c':Option asq}
@[congr] theorem acK{y:(Ex->St->Prop)->Prop}{Q:Ex->St->Prop}{s s':SV}(e:s=s')(e2:c=c'):F_ x y Q s c=F_ x y Q s' c':=by rw[e,e2]
@[congr] theorem acL{Q:Ex->St->Prop}(e:c=c'):Ga x Q c=Ga x Q c':=by rw[e]
@[congr] theorem acM(e:c=c'):tw Q c=tw Q c':=by rw[e]
def ags:exec ts G L .skip ⟨t,h⟩ Q=Q .normal ⟨t,h⟩:=(rfl)
def acN {b:Nat}{a:Array Oper}{d:Bool}:exec ts G L (.region b a d) ⟨t,h⟩ Q=Ga (Ea ts G a d ⟨t,h⟩) Q (L (b+2000000) ⟨t,h⟩):=(rfl)
def acO:Ea ts G ops.toArray false ⟨t,h⟩ Q=kw ts G ops ops ⟨t,h⟩ (λa=>Q .normal (Al ops a)) (λx a=>Q (.pan x) a):=(rfl)
attribute[go_sem]ags acN acO
attribute[go_sem]SV.i
@[go_sem] def ad5:= @Ga.eq_1
variable {d:St}
def ad6:inC d Q .normal ⟨t,h⟩=(h=d.h/\atb t d.t):=(rfl)
def ale{a:St}{x:Value}:inC d Q (.pan x) a=Q (.pan x) a:=(rfl)
attribute[go_sem]ad6 ale
variable {a:Code}
def aiL{b:Code}:exec ts G L (.seq a b) ⟨t,h⟩ Q=exec ts G L a ⟨t,h⟩ (Ex.then (λc=>exec ts G L b c Q) Q):=(rfl)
def agt {c:Operand}{x y:Code}:exec ts G L (.cond c x y) ⟨t,h⟩ Q=F_ (exec ts G L x ⟨t,h⟩) (exec ts G L y ⟨t,h⟩) Q (raw t c) (L (WA c) ⟨t,h⟩):=(rfl)
attribute[go_sem]aiL agt
@[go_sem] def ad7:= @F_.eq_1
@[go_sem] theorem aiM{y:(Ex->St->Prop)->Prop}{s:SV}:F_ x y Q s (some (JC d))=(BB (x (inJ d)) (y (inJ d)) s/\Q .normal d):=by
 have e:(λe st=>∃ r,(JC d).post r/\inJ ((JC d).out r) e st)=inJ d:=by
  funext e st
  exact propext ⟨λ⟨_,_,h⟩ =>h,λh=>⟨(),trivial,h⟩⟩
 show WB x y Q s (JC d)=_;unfold WB;rw[e];exact propext ⟨λh=>⟨h.1,h.2 () trivial⟩,λh=>⟨h.1,λ_ _=>h.2⟩⟩
@[go_sem] def aiN:= @WA.eq_1
@[go_sem]def ad8:inJ d .normal ⟨t,h⟩=(h=d.h/\atb t d.t):=(rfl)
@[go_sem] def aiO:= @atb.eq_1
@[go_sem] def agu:= @atb.eq_2
def Xb {a:Nat}{c:Code}:exec ts G L (.block a (.loop c)) ⟨t,h⟩ Q=tw Q (L a ⟨t,h⟩):=(rfl)
def V5{c:Nat}{f:Operand}{d:Array Tmp}{b:Code}:exec ts G L (.block c (.rangeFunc f d a b)) ⟨t,h⟩ Q=tw Q (L c ⟨t,h⟩):=(rfl)
def Xc{c:Nat}{b:Code}:exec ts G L (.block c (.seq a b)) ⟨t,h⟩ Q=exec ts G L (.seq a b) ⟨t,h⟩ (Ex.block c Q):=(rfl)
def V6{d:Nat}{c:Operand}{b:Code}:exec ts G L (.block d (.cond c a b)) ⟨t,h⟩ Q=exec ts G L (.cond c a b) ⟨t,h⟩ (Ex.block d Q):=(rfl)
attribute[go_sem]Xb V5 Xc V6
variable {j:Nat}
def To{b:Nat}{a:Array Oper}{d:Bool}:exec ts G L (.block b (.region j a d)) ⟨t,h⟩ Q=exec ts G L (.region j a d) ⟨t,h⟩ (Ex.block b Q):=(rfl)
def V7 {a:Nat}:exec ts G L (.block a .skip) ⟨t,h⟩ Q=exec ts G L .skip ⟨t,h⟩ (Ex.block a Q):=(rfl)
def agv {a:Nat}:exec ts G L (.exit a) ⟨t,h⟩ Q=Q (.exit a) ⟨t,h⟩:=(rfl)
def aiP:exec ts G L .ret ⟨t,h⟩ Q=Q .ret ⟨t,h⟩:=(rfl)
def U0 {a:Nat}{c:Code}:exec ts G L (.block a (.scope c)) ⟨t,h⟩ Q=exec ts G L (.scope c) ⟨t,h⟩ (Ex.block a Q):=(rfl)
def U3 {a l:Nat}:exec ts G L (.block a (.label l)) ⟨t,h⟩ Q=exec ts G L (.label l) ⟨t,h⟩ (Ex.block a Q):=(rfl)
def ad9 {c:Code}:exec ts G L (.scope c) ⟨t,h⟩ Q=exec ts G L c ⟨t,h⟩ Q:=(rfl)
def ad_ {l:Nat}:exec ts G L (.label l) ⟨t,h⟩ Q=Q .normal ⟨t,h⟩:=(rfl)
attribute[go_sem]To V7 agv aiP U0 U3 ad9 ad_
@[go_sem] def acP:= @Ex.then.eq_1
def aiQ {a:St}:Ex.then K Q .ret a=Q .ret a:=(rfl)
def agw{a:St}:Ex.then K Q (.exit j) a=Q (.exit j) a:=(rfl)
def aa1 {a:St}{b:Nat}:Ex.block b Q .normal a=Q .normal a:=(rfl)
def agx {a:St}{b:Nat}:Ex.block b Q .ret a=Q .ret a:=(rfl)
def aiR {a:St}{v:Value}:Ex.then K Q (.pan v) a=Q (.pan v) a:=(rfl)
def agy {a:St}{b:Nat}{v:Value}:Ex.block b Q (.pan v) a=Q (.pan v) a:=(rfl)
attribute[go_sem]aiQ agw aa1 agx aiR agy
@[go_sem] def aea:= @Ex.block.eq_1
@[go_sem] def alf:= @BB.eq_1
variable {α:Type}{pre:Prop}{post:α->Prop}
def aeb{a:α->Ex}{b:α->St}:tw Q (some ⟨α,pre,post,a,b⟩)=(pre/\∀ r,post r->Q (a r) (b r)):=(rfl)
def aec:Ea ts G ops.toArray true ⟨t,h⟩ Q=lh ts G ops (λa=>Q .normal (Al ops a)) (λx a=>Q (.pan x) a) ops 0 0 [] ⟨t,h⟩:=(rfl)
def acQ:kw ts G ops [] ⟨t,h⟩ K Z=K ⟨t,h⟩:=(rfl)
attribute[go_sem]aeb aec acQ
variable {d:Option Nat}{ty:TypeId}{pos:String}{af:Array Edge}
def aa2{a:Op}:kw ts G ops (⟨d,a,ty,pos,af,none⟩::rest) ⟨t,h⟩ K Z=oi G d ⟨t,h⟩ (λb=>kw ts G ops rest b K Z) Z (opS ⟨ts,ops,none,⟨t,h⟩,h.length⟩ a):=(rfl)
def aed{i b:Nat}{a:Op}:lh ts G ops K Z (⟨d,a,ty,pos,af,none⟩::rest) i b fps ⟨t,h⟩=AJ d ⟨t,h⟩ (λe f c=>lh ts G ops K Z rest (i+1) b (fps++[fpU a (fpO ⟨ts,ops,none,⟨t,h⟩,h.length⟩ a) e f]) c) (uh ops b fps/\F8 ops i=true/\oi G d ⟨t,h⟩ (λc=>lh ts G ops K Z rest (i+1) (i+1) [] c) Z (opS ⟨ts,ops,none,⟨t,h⟩,h.length⟩ a)) (lB G h h.length (opS ⟨ts,ops,none,⟨t,h⟩,h.length⟩ a)):=(rfl)
def aa3{a:Op}:kw ts G ops (⟨d,a,ty,pos,af,some g⟩::rest) ⟨t,h⟩ K Z=stepG G ops g d ⟨t,h⟩ (λb=>kw ts G ops rest b K Z) Z (opS ⟨ts,ops,some g,⟨t,h⟩,h.length⟩ a):=(rfl)
def aee{i b:Nat}{a:Op}:lh ts G ops K Z (⟨d,a,ty,pos,af,some g⟩::rest) i b fps ⟨t,h⟩=yx ops g d ⟨t,h⟩ (λe f c=>lh ts G ops K Z rest (i+1) b (fps++[fpU a (fpO ⟨ts,ops,some g,⟨t,h⟩,h.length⟩ a) e f]) c) (uh ops b fps/\F8 ops i=true/\stepG G ops g d ⟨t,h⟩ (λc=>lh ts G ops K Z rest (i+1) (i+1) [] c) Z (opS ⟨ts,ops,some g,⟨t,h⟩,h.length⟩ a)) (lB G h h.length (opS ⟨ts,ops,some g,⟨t,h⟩,h.length⟩ a)):=(rfl)
def agz{i b:Nat}:lh ts G ops K Z [] i b fps ⟨t,h⟩=(uh ops b fps/\K ⟨t,h⟩):=(rfl)
attribute[go_sem]aa2 aed aa3 aee agz
variable {d:Nat}
@[go_sem]def agA{s:SV}:oi G (some d) ⟨t,h⟩ K Z (.val s)=K ⟨(d,s)::t,h⟩:=(rfl)
variable {c:Prop}
def agB{s:SV}:oi G (some d) ⟨t,h⟩ K Z (.chk c s)=(c/\K ⟨(d,s)::t,h⟩):=(rfl)
def agC{s:SV}:oi G (some d) ⟨t,h⟩ K Z (.asm c s)=(c->K ⟨(d,s)::t,h⟩):=(rfl)
def aef{s:SV}:oi G (some d) ⟨t,h⟩ K Z (.asD s)=K ⟨(d,s)::t,h⟩:=(rfl)
attribute[go_sem]agB agC aef
variable {a:Prop}
def agD{s:SV}{b:List Up}:oi G (some d) ⟨t,h⟩ K Z (.eff c a b s)=(c/\(a->K ⟨(d,s)::t,br h b⟩)):=(rfl)
def agE:stepG G ops g (some d) ⟨t,h⟩ K Z .bad=(yu ops t ops.length g/\K ⟨(d,.gd g.1 g.2 .any)::t,h⟩):=(rfl)
def aeg:stepG G ops g none ⟨t,h⟩ K Z .bad=(yu ops t ops.length g/\K ⟨t,h⟩):=(rfl)
def agF{s:SV}:stepG G ops g (some d) ⟨t,h⟩ K Z (.val s)=K ⟨(d,.gd g.1 g.2 s)::t,h⟩:=(rfl)
def agG{s:SV}:stepG G ops g (some d) ⟨t,h⟩ K Z (.chk c s)=((dY ops t ops.length g->c)/\K ⟨(d,.gd g.1 g.2 s)::t,h⟩):=(rfl)
def agH{s:SV}:stepG G ops g (some d) ⟨t,h⟩ K Z (.asm c s)=K ⟨(d,.gd g.1 g.2 s)::t,h⟩:=(rfl)
def aeh{s:SV}:stepG G ops g (some d) ⟨t,h⟩ K Z (.asD s)=K ⟨(d,.gd g.1 g.2 s)::t,h⟩:=(rfl)
def agI{s:SV}{b:List Up}:stepG G ops g (some d) ⟨t,h⟩ K Z (.eff c a b s)=((dY ops t ops.length g->c/\(a->K ⟨(d,.gd g.1 g.2 s)::t,br h b⟩))/\(gK ops t ops.length g->K ⟨(d,.gd g.1 g.2 .any)::t,h⟩)):=(rfl)
attribute[go_sem]agD agE aeg agF agG agH aeh agI
variable {c:Option arV}{np:Bool}
def agJ{a:List Nat}{s:SV}:yw np a (some d) ⟨t,h⟩ K Z c (some (.det p s))=bif np||kf 3 s then(p/\K ⟨(d,j_ 3 h.length s)::t,h++aZ 3 s⟩)else BA a (some d) ⟨t,h⟩ K Z c:=(rfl)
def agK{b:List Nat}{a:α->SV}:yw np b (some d) ⟨t,h⟩ K Z c (some (.rel α pre post a))=(pre/\(bif np then ∀ r,post r->K ⟨(d,j_ 3 h.length (a r))::t,h++aZ 3 (a r)⟩else False)):=(rfl)
attribute[go_sem]agJ agK
variable {x:Value}
@[go_sem]def agL{b:List Nat}{s:SV}{a:Bool}:yw np b (some d) ⟨t,h⟩ K Z c (some (.may a s x))=(bif np||kf 3 s then(a=true->K ⟨(d,j_ 3 h.length s)::t,h++aZ 3 s⟩)/\(a=false->Z x ⟨asC t,h⟩)else False):=(rfl)
variable {h':List Ob}
def aiS{a:List Nat}{s:SV}:LF a (some d) ⟨t,h⟩ K Z (.ret s h')=K ⟨(d,ren (tu a h.length) 3 s)::t,oh a h.length h 0 h'⟩:=(rfl)
def aiT{a:List Nat}{s:SV}:N0 a g (some d) ⟨t,h⟩ K Z (.ret s h')=K ⟨(d,.gd g.1 g.2 (ren (tu a h.length) 3 s))::t,oh a h.length h 0 h'⟩:=(rfl)
attribute[go_sem]aiS aiT
@[go_sem] def acR:= @CY.eq_2
variable {o:arV}
def acS{a:List Nat}:CY a ops g (some d) ⟨t,h⟩ K Z (some o)=((dY ops t ops.length g->o.pre/\∀ r,o.post r->N0 a g (some d) ⟨t,h⟩ K Z (o.res r))/\(gK ops t ops.length g->K ⟨(d,.gd g.1 g.2 .any)::t,h⟩)):=(rfl)
def agM{a:List Nat}{s:SV}:F9 np a ops g (some d) ⟨t,h⟩ K Z c (some (.det p s))=((dY ops t ops.length g->p)/\(bif(np||kf 3 s)&&(aZ 3 s).isEmpty then K ⟨(d,.gd g.1 g.2 s)::t,h⟩else False)):=(rfl)
attribute[go_sem]acS agM
variable {res:α->Bool×Res}
def agN{a:Nat}:QR a (some d) ⟨t,h⟩ K (some ⟨α,pre,post,res⟩)=(pre/\∀ r,post r->K ⟨(d,.b (res r).1)::t,cW h a (.ab (res r).2)⟩):=(rfl)
def agO{a:Nat}:N1 a ops g (some d) ⟨t,h⟩ K (some ⟨α,pre,post,res⟩)=((dY ops t ops.length g->pre/\∀ r,post r->K ⟨(d,.gd g.1 g.2 (.b (res r).1))::t,cW h a (.ab (res r).2)⟩)/\(gK ops t ops.length g->K ⟨(d,.gd g.1 g.2 .any)::t,h⟩)):=(rfl)
attribute[go_sem]agN agO
variable {K0 c:Prop}
def amW{e:List Nat->List Up->St->Prop}{s:SV}{b:List Up}{f:List Nat}:AJ (some d) ⟨t,h⟩ e K0 (some ⟨c,a,s,b,f⟩)=(c/\(a->e f b ⟨(d,s)::t,br h b⟩)):=(rfl)
def amX{b:List Nat->List Up->St->Prop}{s:SV}{e:List Up}{f:List Nat}:yx ops g (some d) ⟨t,h⟩ b K0 (some ⟨c,a,s,e,f⟩)=bif e.isEmpty then(dY ops t ops.length g->c)/\b f [] ⟨(d,.gd g.1 g.2 s)::t,h⟩else ¬ (dY ops t ops.length g/\gK ops t ops.length g)/\(dY ops t ops.length g->c/\(a->b f e ⟨(d,.gd g.1 g.2 s)::t,br h e⟩))/\(gK ops t ops.length g->b f [] ⟨(d,.gd g.1 g.2 s)::t,h⟩):=(rfl)
def aei {s:SV}:oi G none ⟨t,h⟩ K Z (.val s)=K ⟨t,h⟩:=(rfl)
def aej{s:SV}:oi G none ⟨t,h⟩ K Z (.chk c s)=(c/\K ⟨t,h⟩):=(rfl)
def aek{s:SV}:oi G none ⟨t,h⟩ K Z (.asm c s)=(c->K ⟨t,h⟩):=(rfl)
def acT {s:SV}:oi G none ⟨t,h⟩ K Z (.asD s)=K ⟨t,h⟩:=(rfl)
def ael{s:SV}{b:List Up}:oi G none ⟨t,h⟩ K Z (.eff c a b s)=(c/\(a->K ⟨t,br h b⟩)):=(rfl)
def aem{s:SV}:stepG G ops g none ⟨t,h⟩ K Z (.val s)=K ⟨t,h⟩:=(rfl)
def aen{s:SV}:stepG G ops g none ⟨t,h⟩ K Z (.chk c s)=((dY ops t ops.length g->c)/\K ⟨t,h⟩):=(rfl)
def aeo{s:SV}:stepG G ops g none ⟨t,h⟩ K Z (.asm c s)=K ⟨t,h⟩:=(rfl)
def acU{s:SV}:stepG G ops g none ⟨t,h⟩ K Z (.asD s)=K ⟨t,h⟩:=(rfl)
def aep{s:SV}{b:List Up}:stepG G ops g none ⟨t,h⟩ K Z (.eff c a b s)=((dY ops t ops.length g->c/\(a->K ⟨t,br h b⟩))/\(gK ops t ops.length g->K ⟨t,h⟩)):=(rfl)
attribute[go_sem]amW amX aei aej aek acT ael aem aen aeo acU aep
variable {c:Option arV}
def aeq{a:List Nat}{s:SV}:yw np a none ⟨t,h⟩ K Z c (some (.det p s))=bif np||kf 3 s then(p/\K ⟨t,h++aZ 3 s⟩)else BA a none ⟨t,h⟩ K Z c:=(rfl)
def aer{b:List Nat}{a:α->SV}:yw np b none ⟨t,h⟩ K Z c (some (.rel α pre post a))=(pre/\(bif np then ∀ r,post r->K ⟨t,h++aZ 3 (a r)⟩else False)):=(rfl)
def aes{b:List Nat}{s:SV}{a:Bool}:yw np b none ⟨t,h⟩ K Z c (some (.may a s x))=(bif np||kf 3 s then(a=true->K ⟨t,h++aZ 3 s⟩)/\(a=false->Z x ⟨asC t,h⟩)else False):=(rfl)
def agP{a:List Nat}{s:SV}:LF a none ⟨t,h⟩ K Z (.ret s h')=K ⟨t,oh a h.length h 0 h'⟩:=(rfl)
def agQ{a:List Nat}{s:SV}:N0 a g none ⟨t,h⟩ K Z (.ret s h')=K ⟨t,oh a h.length h 0 h'⟩:=(rfl)
def aa4{a:List Nat}:CY a ops g none ⟨t,h⟩ K Z (some o)=((dY ops t ops.length g->o.pre/\∀ r,o.post r->N0 a g none ⟨t,h⟩ K Z (o.res r))/\(gK ops t ops.length g->K ⟨t,h⟩)):=(rfl)
def aet{a:List Nat}{s:SV}:F9 np a ops g none ⟨t,h⟩ K Z c (some (.det p s))=((dY ops t ops.length g->p)/\(bif(np||kf 3 s)&&(aZ 3 s).isEmpty then K ⟨t,h⟩else False)):=(rfl)
def aeu{a:Nat}:QR a none ⟨t,h⟩ K (some ⟨α,pre,post,res⟩)=(pre/\∀ r,post r->K ⟨t,cW h a (.ab (res r).2)⟩):=(rfl)
def aev{a:Nat}:N1 a ops g none ⟨t,h⟩ K (some ⟨α,pre,post,res⟩)=((dY ops t ops.length g->pre/\∀ r,post r->K ⟨t,cW h a (.ab (res r).2)⟩)/\(gK ops t ops.length g->K ⟨t,h⟩)):=(rfl)
def alg{d:List Nat->List Up->St->Prop}{c:Prop}{s:SV}{b:List Up}{e:List Nat}:AJ none ⟨t,h⟩ d K0 (some ⟨c,a,s,b,e⟩)=(c/\(a->d e b ⟨t,br h b⟩)):=(rfl)
def alh{b:List Nat->List Up->St->Prop}{c:Prop}{s:SV}{d:List Up}{e:List Nat}:yx ops g none ⟨t,h⟩ b K0 (some ⟨c,a,s,d,e⟩)=bif d.isEmpty then(dY ops t ops.length g->c)/\b e [] ⟨t,h⟩else ¬ (dY ops t ops.length g/\gK ops t ops.length g)/\(dY ops t ops.length g->c/\(a->b e d ⟨t,br h d⟩))/\(gK ops t ops.length g->b e [] ⟨t,h⟩):=(rfl)
attribute[go_sem]aeq aer aes agP agQ aa4 aet aeu aev alg alh
@[go_sem] def acV:= @AJ.eq_2
@[go_sem] def acW:= @yx.eq_2
variable {d:Option Nat}{f:FuncId}{args:List SV}
def aew:oi G d ⟨t,h⟩ K Z (.call f args)=yw (args.all (dM 3)) (reach h 64 (args.flatMap (gu 3)) []) d ⟨t,h⟩ K Z (G.o f (args.map (ren (inN (reach h 64 (args.flatMap (gu 3)) [])) 6)) (vN h (reach h 64 (args.flatMap (gu 3)) []))) (G.p f (args.map (jq h 6))):=(rfl)
def aex:stepG G ops g d ⟨t,h⟩ K Z (.call f args)=F9 (args.all (dM 3)) (reach h 64 (args.flatMap (gu 3)) []) ops g d ⟨t,h⟩ K Z (G.o f (args.map (ren (inN (reach h 64 (args.flatMap (gu 3)) [])) 6)) (vN h (reach h 64 (args.flatMap (gu 3)) []))) (G.p f (args.map (jq h 6))):=(rfl)
def agR{a:Nat}:oi G d ⟨t,h⟩ K Z (.yld a args)=bif args.all (dM 3)then QR a d ⟨t,h⟩ K (LG G args (ap h a))else False:=(rfl)
def agS{a:Nat}:stepG G ops g d ⟨t,h⟩ K Z (.yld a args)=bif args.all (dM 3)then N1 a ops g d ⟨t,h⟩ K (LG G args (ap h a))else False:=(rfl)
attribute[go_sem]aew aex agR agS
@[go_sem] def ali:= @LG.eq_1
@[go_sem]def agT{a:Nat}:oi G d ⟨t,h⟩ K Z (.nxt a)=aaB a d ⟨t,h⟩ K (ap h a):=(rfl)
variable {left:List Nat}
def alj{b a n:Nat}{c:Option Nat}:aaB b d ⟨t,h⟩ K (.mi (some a) n left c)=Wx b a n left d ⟨t,h⟩ K (ap h a):=(rfl)
def alk{d c e n f:Nat}{a b:Tag}{l:List (a.T×b.T)}:Wx c e n left (some d) ⟨t,h⟩ K (.mp a b l (some (f,none)))=((f=c/\n=l.length)/\(left=[]->K ⟨(d,.tup [.v (.bool false)])::t,h⟩)/\∀ j,j∈left->K ⟨(d,.tup [.v (.bool true),svT a (l.getD j (fg a,fg b)).1,svT b (l.getD j (fg a,fg b)).2])::t,cW h c (.mi (some e) n (left.erase j) (some j))⟩):=(rfl)
def aiU {a:Nat}:lB G h nx (.nxt a)=none:=(rfl)
attribute[go_sem]alj alk aiU
variable {p:Bool->Prop}
def aiV:lB G h nx (.amb p)=none:=(rfl)
def agU{d:Nat}:oi G (some d) ⟨t,h⟩ K Z (.amb p)= ∀ b,p b->K ⟨(d,.v (.bool b))::t,h⟩:=(rfl)
def agV:oi G d ⟨t,h⟩ K Z (.pan x)=Z x ⟨asC t,h⟩:=(rfl)
def agW{a:List Nat}:yw np a d ⟨t,h⟩ K Z c none=BA a d ⟨t,h⟩ K Z c:=(rfl)
def aey{a:List Nat}:BA a d ⟨t,h⟩ K Z (some o)=(o.pre/\∀ r,o.post r->LF a d ⟨t,h⟩ K Z (o.res r)):=(rfl)
def aiW{a:List Nat}:LF a d ⟨t,h⟩ K Z (.pan x h')=Z x ⟨asC t,oh a h.length h 0 h'⟩:=(rfl)
def aiX{a:List Nat}:N0 a g d ⟨t,h⟩ K Z (.pan x h')=Z x ⟨asC t,oh a h.length h 0 h'⟩:=(rfl)
def agX{a:List Nat}:F9 np a ops g d ⟨t,h⟩ K Z c none=CY a ops g d ⟨t,h⟩ K Z c:=(rfl)
attribute[go_sem]aiV agU agV agW aey aiW aiX agX
@[go_sem] def aiY:= @lB.eq_7
@[go_sem] def aiZ:= @lB.eq_1
@[go_sem] def ai0:= @lB.eq_2
@[go_sem] def ai1:= @lB.eq_3
@[go_sem] def agY:= @lB.eq_4
@[go_sem] def ai2:= @lB.eq_5
@[go_sem] def agZ:= @lB.eq_6
@[go_sem] def ai3:= @drX.eq_1
@[go_sem] def ai4:= @drX.eq_2
@[go_sem] def alm:= @drB.eq_1
variable {C:m0}
@[go_sem]def aln{a:List Nat}:drB C a []=none:=(rfl)
@[go_sem] theorem alo{rd:List Nat}{a b:SV}{l:List SV}:drB C rd (a::b::l)=none:=by cases a <;>rfl
def aul{a:List Nat}:drB C a [.v x]=none:=(rfl)
def alp{a:List Nat}{i:Nat}:drB C a [.ptr i j]=none:=(rfl)
attribute[go_sem]aul alp
@[go_sem] def ai5:= @aaC.eq_1
def ag0{i:Nat}{a:List Nat}:aaC C i a none=none:=(rfl)
def ag1 {b:Bool}:Wy (.bool b)=true:=(rfl)
def ai6{a:Nat}:lB G h nx (.yld a args)=none:=(rfl)
def ai7:lB G h nx (.pan x)=none:=(rfl)
attribute[go_sem]ag0 ag1 ai6 ai7
@[go_sem] def alq:= @drC.eq_1
@[go_sem] def alr:= @drR.eq_1
@[go_sem] def als:= @drR.eq_2
def alt{a:List Nat}{s:SV}{p:Prop}{b c:Ob}{l:List Ob}:drR np a nx p s (b::c::l)=none:=(rfl)
def alu{a:List Nat}{b:α->SV}:drC np a nx (some (.rel α pre post b))=none:=(rfl)
def alv{a:List Nat}{s:SV}{b:Bool}:drC np a nx (some (.may b s x))=none:=(rfl)
def ai8{a:List Nat}:drC np a nx none=none:=(rfl)
attribute[go_sem]alt alu alv ai8
@[go_sem] def ag2:= @uh.eq_1
variable {g:Option (Nat×Bool)}
@[go_sem]def amY {x:Operand}:val ⟨ts,ops,g,⟨t,h⟩,nx⟩ x=bT ops g (raw t x):=(rfl)
variable {cx:Cx}{x y a b:Operand}{ty n f:Nat}
@[go_sem] def ai9:= @opS.eq_1
@[go_sem] def aez:= @opS.eq_2
variable {c:Operand}
def ai_:opS ⟨ts,ops,g,⟨t,h⟩,nx⟩ (.pick c a b)=FY a b (bT ops g (raw t c)) (lV ops g c true (raw t a)) (lV ops g c false (raw t b)):=(rfl)
def ag3:opS ⟨ts,ops,g,⟨t,h⟩,nx⟩ (.alloc ty)=aO ts ty λa=>Lv nx (some a.zero):=(rfl)
def alw:opS ⟨ts,ops,g,⟨t,h⟩,nx⟩ (.box ty x)=Lv nx (qQ (bT ops g (raw t x))):=(rfl)
attribute[go_sem]ai_ ag3 alw
variable {parts:List (Nat×Operand)}
def ag4:opS ⟨ts,ops,g,⟨t,h⟩,nx⟩ (.build ty parts.toArray)=aO ts ty λa=>bif a.asF then aO ts a.elem λb=>QO (mY (λi=>some (i*b.size,b.size)) a.zero (kv ⟨ts,ops,g,⟨t,h⟩,nx⟩ parts))else bif a.agg then QO (mY (λi=>(nth a.fields i).map λf=>(f.1,f.2.1)) a.zero (kv ⟨ts,ops,g,⟨t,h⟩,nx⟩ parts))else .bad:=(rfl)
def Xd:opS ⟨ts,ops,g,⟨t,h⟩,nx⟩ (.buildSlice ty n parts.toArray)=aO ts ty λa=>aO ts a.elem λb=>NV (QQ ty ops g) nx b (bsS a b n (kv ⟨ts,ops,g,⟨t,h⟩,nx⟩ parts)):=(rfl)
def aja:opS ⟨ts,ops,g,⟨t,h⟩,nx⟩ (.load ty a)=aO ts ty λb=>tq b h (bT ops g (raw t a)):=(rfl)
def ag5:opS ⟨ts,ops,g,⟨t,h⟩,nx⟩ (.store ty a x)=aO ts ty λb=>uf b.size nx h (bT ops g (raw t a)) (bT ops g (raw t x)):=(rfl)
def aa5:opS ⟨ts,ops,g,⟨t,h⟩,nx⟩ (.nilCheck x)=Wg (bT ops g (raw t x)):=(rfl)
def ag6 {a:BinOp}:opS ⟨ts,ops,g,⟨t,h⟩,nx⟩ (.binOp a ty x y n)=Ls ts a ty (bT ops g (raw t x)) (bT ops g (raw t y)):=(rfl)
def ajb {a:UnOp}:opS ⟨ts,ops,g,⟨t,h⟩,nx⟩ (.unOp a ty x)=unS a (bT ops g (raw t x)):=(rfl)
def acX:opS ⟨ts,ops,g,⟨t,h⟩,nx⟩ (.convert n ty x)=aO ts n λ_=>aO ts ty λa=>NS a.int (bT ops g (raw t x)):=(rfl)
def aa6 {a:Fn}{b c:List Operand}:opS cx (.makeFunc a b.toArray c.toArray)=NW a (dO cx b) (dO cx c):=(rfl)
attribute[go_sem]ag4 Xd aja ag5 aa5 ag6 ajb acX aa6
def acY (k:SV):Option (Nat×Nat×Bool)->OR
 |some (o,n,_) =>bif Nat.ble 1 n then CW o k else .bad|none=>.bad
@[go_sem] def aeA:= @acY.eq_1
def Z8:opS ⟨ts,ops,g,⟨t,h⟩,nx⟩ (.fieldAddr ty x f)=aO ts ty λa=>acY (bT ops g (raw t x)) (nth a.fields f):=(rfl)
def ag7:opS ⟨ts,ops,g,⟨t,h⟩,nx⟩ (.field ty x f)=aO ts ty λa=>ue (nth a.fields f) (I4 (bT ops g (raw t x))):=(rfl)
def Z9:opS ⟨ts,ops,g,⟨t,h⟩,nx⟩ (.indexAddr ty x y)=aO ts ty λa=>aO ts a.elem λb=>jk a b.size h (bT ops g (raw t x)) (bT ops g (raw t y)):=(rfl)
def ag8:opS ⟨ts,ops,g,⟨t,h⟩,nx⟩ (.panic x)=Wm (bT ops g (raw t x)):=(rfl)
def Tp:opS ⟨ts,ops,g,⟨t,h⟩,nx⟩ (.makeInterface ty x)=aO ts ty λa=>bif a.iface then .bad else F4 ty (bT ops g (raw t x)):=(rfl)
def Xe {a:Bool}:opS ⟨ts,ops,g,⟨t,h⟩,nx⟩ (.typeAssert x n ty a)=aO ts ty λb=>taS ty a b (bT ops g (raw t x)):=(rfl)
def acZ:opS ⟨ts,ops,g,⟨t,h⟩,nx⟩ (.extract x n)=Wl n (bT ops g (raw t x)):=(rfl)
def Z_:opS ⟨ts,ops,g,⟨t,h⟩,nx⟩ (.makeSlice ty x y)=aO ts ty λb=>aO ts b.elem λa=>bif b.isSlice then(bif a.isSlice then aO ts a.elem λc=>Ly nx a c (bT ops g (raw t x)) (bT ops g (raw t y))else mkS nx a (bT ops g (raw t x)) (bT ops g (raw t y)))else .bad:=(rfl)
attribute[go_sem]Z8 ag7 Z9 ag8 Tp Xe acZ Z_
variable {lo hi:Option Operand}
def ag9:opS ⟨ts,ops,g,⟨t,h⟩,nx⟩ (.slice ty x lo hi none)=aO ts ty λa=>aO ts a.elem λb=>pc a b.size nx h (pZ ⟨ts,ops,g,⟨t,h⟩,nx⟩ lo) (pZ ⟨ts,ops,g,⟨t,h⟩,nx⟩ hi) (J3 hi&&NU ops) (bT ops g (raw t x)):=(rfl)
def ajc{m:Operand}:opS ⟨ts,ops,g,⟨t,h⟩,nx⟩ (.slice ty x lo hi (some m))=aO ts ty λa=>aO ts a.elem λ_=>F7 a (pZ ⟨ts,ops,g,⟨t,h⟩,nx⟩ lo) (pZ ⟨ts,ops,g,⟨t,h⟩,nx⟩ hi) (bT ops g (raw t m)) (bT ops g (raw t x)):=(rfl)
def ac0:opS ⟨ts,ops,g,⟨t,h⟩,nx⟩ (.makeMap ty none)=aO ts ty λa=>mmR nx a.mkt a.mvt:=(rfl)
def aeB {a:Bool}:opS ⟨ts,ops,g,⟨t,h⟩,nx⟩ (.lookup ty x y a)=aO ts ty λb=>ve b h a (bT ops g (raw t y)) (bT ops g (raw t x)):=(rfl)
def aaa:opS ⟨ts,ops,g,⟨t,h⟩,nx⟩ (.mapUpdate ty x y a)=aO ts ty λb=>EO b h (bT ops g (raw t y)) (bT ops g (raw t a)) (bT ops g (raw t x)):=(rfl)
def aeC:opS ⟨ts,ops,g,⟨t,h⟩,nx⟩ (.insert ty x y a)=aO ts ty λb=>EO b h (bT ops g (raw t y)) (bT ops g (raw t a)) (bT ops g (raw t x)):=(rfl)
def aa7:opS ⟨ts,ops,g,⟨t,h⟩,nx⟩ (.mapEntry ty x y)=aO ts ty λa=>Bx a nx h (bT ops g (raw t y)) (bT ops g (raw t x)):=(rfl)
def Xf:opS ⟨ts,ops,g,⟨t,h⟩,nx⟩ (.entryStore ty x y a)=aO ts ty λb=>Lz b h (bT ops g (raw t a)) (bT ops g (raw t x)) (bT ops g (raw t y)):=(rfl)
attribute[go_sem]ag9 ajc ac0 aeB aaa aeC aa7 Xf
variable {args:List Operand}
def ajd{a:Array TypeId}:opS ⟨ts,ops,g,⟨t,h⟩,nx⟩ (.call ⟨.value x,args.toArray,a⟩)=Bv (dO ⟨ts,ops,g,⟨t,h⟩,nx⟩ args) (bT ops g (raw t x)):=(rfl)
def alx:opS ⟨ts,ops,g,⟨t,h⟩,nx⟩ (.call ⟨.builtin .len,args.toArray,[ty].toArray⟩)=aO ts ty λa=>vM a h (dO ⟨ts,ops,g,⟨t,h⟩,nx⟩ args):=(rfl)
def aeD:opS ⟨ts,ops,g,⟨t,h⟩,nx⟩ (.call ⟨.builtin .append,args.toArray,[ty,n].toArray⟩)=aO ts ty λa=>aO ts n λb=>aO ts a.elem λc=>bif a.isSlice&&b.isSlice then nU c nx h (dO ⟨ts,ops,g,⟨t,h⟩,nx⟩ args)else .bad:=(rfl)
def aeE{a:List TypeId}:opS ⟨ts,ops,g,⟨t,h⟩,nx⟩ (.call ⟨.builtin .delete,args.toArray,(ty::a).toArray⟩)=aO ts ty λb=>AH b h (dO ⟨ts,ops,g,⟨t,h⟩,nx⟩ args):=(rfl)
def ag_:opS ⟨ts,ops,g,⟨t,h⟩,nx⟩ (.call ⟨.builtin .clear,args.toArray,[ty].toArray⟩)=aO ts ty λa=>aO ts a.elem λb=>AG a b h (dO ⟨ts,ops,g,⟨t,h⟩,nx⟩ args):=(rfl)
attribute[go_sem]ajd alx aeD aeE ag_
variable {tys:Array TypeId}
def aly:opS cx (.call ⟨.builtin .min,args.toArray,tys⟩)=Lw (dO cx args):=(rfl)
def alz:opS cx (.call ⟨.builtin .max,args.toArray,tys⟩)=Lx (dO cx args):=(rfl)
def aha:opS ⟨ts,ops,g,⟨t,h⟩,nx⟩ (.range ty x)=aO ts ty λa=>LA a nx h (bT ops g (raw t x)):=(rfl)
def aje:opS ⟨ts,ops,g,⟨t,h⟩,nx⟩ (.next x false)=Wr (bT ops g (raw t x)):=(rfl)
def ahb:opS ⟨ts,ops,g,⟨t,h⟩,nx⟩ (.entry x)=D_ h (bT ops g (raw t x)):=(rfl)
def ahc:fpO ⟨ts,ops,g,⟨t,h⟩,nx⟩ (.range ty x)=(gI (bT ops g (raw t x)),[]):=(rfl)
def ajf {s:Bool}:fpO cx (.next x s)=([],[]):=(rfl)
def ahd:fpO ⟨ts,ops,g,⟨t,h⟩,nx⟩ (.entry x)=(gI (bT ops g (raw t x))++Wu h (bT ops g (raw t x)),[]):=(rfl)
def ajg:fpO ⟨ts,ops,g,⟨t,h⟩,nx⟩ (.load ty a)=(gI (bT ops g (raw t a)),[]):=(rfl)
def ahe:fpO ⟨ts,ops,g,⟨t,h⟩,nx⟩ (.store ty a x)=(gI (bT ops g (raw t a))++gI (bT ops g (raw t x)),[]):=(rfl)
def aab:fpO ⟨ts,ops,g,⟨t,h⟩,nx⟩ (.indexAddr ty x y)=(gI (bT ops g (raw t x)),[]):=(rfl)
def ahf{a:Option Operand}:fpO ⟨ts,ops,g,⟨t,h⟩,nx⟩ (.slice ty x lo hi a)=(gI (bT ops g (raw t x)),[]):=(rfl)
def aeF {a:Bool}:fpO ⟨ts,ops,g,⟨t,h⟩,nx⟩ (.lookup ty x y a)=bif a then(gI (bT ops g (raw t x)),[])else([],gI (bT ops g (raw t x))):=(rfl)
def aac:fpO ⟨ts,ops,g,⟨t,h⟩,nx⟩ (.mapUpdate ty x y a)=(gI (bT ops g (raw t x)),[]):=(rfl)
def aeG:fpO ⟨ts,ops,g,⟨t,h⟩,nx⟩ (.insert ty x y a)=(gI (bT ops g (raw t x)),[]):=(rfl)
def aa8:fpO ⟨ts,ops,g,⟨t,h⟩,nx⟩ (.mapEntry ty x y)=(gI (bT ops g (raw t x)),[]):=(rfl)
def Xg:fpO ⟨ts,ops,g,⟨t,h⟩,nx⟩ (.entryStore ty x y a)=(gI (bT ops g (raw t x)),[]):=(rfl)
def alA:fpO ⟨ts,ops,g,⟨t,h⟩,nx⟩ (.call ⟨.builtin .len,args.toArray,tys⟩)=(qR (dO ⟨ts,ops,g,⟨t,h⟩,nx⟩ args),[]):=(rfl)
def aeH:fpO ⟨ts,ops,g,⟨t,h⟩,nx⟩ (.call ⟨.builtin .append,args.toArray,tys⟩)=(qR (dO ⟨ts,ops,g,⟨t,h⟩,nx⟩ args),[]):=(rfl)
def aeI:fpO ⟨ts,ops,g,⟨t,h⟩,nx⟩ (.call ⟨.builtin .delete,args.toArray,tys⟩)=(qR (dO ⟨ts,ops,g,⟨t,h⟩,nx⟩ args),[]):=(rfl)
def ahg:fpO ⟨ts,ops,g,⟨t,h⟩,nx⟩ (.call ⟨.builtin .clear,args.toArray,tys⟩)=(qR (dO ⟨ts,ops,g,⟨t,h⟩,nx⟩ args),[]):=(rfl)
def ajh:fpO cx (.move x)=([],[]):=(rfl)
def aeJ:fpO cx (.assign x)=([],[]):=(rfl)
def aji:fpO cx (.pick x a b)=([],[]):=(rfl)
def ahh:fpO cx (.alloc ty)=([],[]):=(rfl)
def alB:fpO cx (.box ty x)=([],[]):=(rfl)
attribute[go_sem]aly alz aha aje ahb ahc ajf ahd ajg ahe aab ahf aeF aac aeG aa8 Xg alA aeH aeI ahg ajh aeJ aji ahh alB
variable {parts:Array (Nat×Operand)}
def ahi:fpO cx (.build ty parts)=([],[]):=(rfl)
def Xh:fpO cx (.buildSlice ty n parts)=([],[]):=(rfl)
def aa9:fpO cx (.nilCheck x)=([],[]):=(rfl)
def ahj {a:BinOp}:fpO cx (.binOp a ty x y n)=([],[]):=(rfl)
def ajj {a:UnOp}:fpO cx (.unOp a ty x)=([],[]):=(rfl)
def ac1:fpO cx (.convert n ty x)=([],[]):=(rfl)
def aa_ {a:Fn}{b c:Array Operand}:fpO cx (.makeFunc a b c)=([],[]):=(rfl)
def aad:fpO cx (.fieldAddr ty x f)=([],[]):=(rfl)
def ahk:fpO cx (.field ty x f)=([],[]):=(rfl)
def ahl:fpO cx (.panic x)=([],[]):=(rfl)
def Tq:fpO cx (.makeInterface ty x)=([],[]):=(rfl)
def Xi {a:Bool}:fpO cx (.typeAssert x n ty a)=([],[]):=(rfl)
def ac2:fpO cx (.extract x n)=([],[]):=(rfl)
def aae:fpO cx (.makeSlice ty x y)=([],[]):=(rfl)
def ac3 {o:Option Operand}:fpO cx (.makeMap ty o)=([],[]):=(rfl)
attribute[go_sem]ahi Xh aa9 ahj ajj ac1 aa_ aad ahk ahl Tq Xi ac2 aae ac3
variable {args:Array Operand}
def ajk:fpO cx (.call ⟨.value x,args,tys⟩)=([],[]):=(rfl)
def alC:fpO cx (.call ⟨.builtin .min,args,tys⟩)=([],[]):=(rfl)
def alD:fpO cx (.call ⟨.builtin .max,args,tys⟩)=([],[]):=(rfl)
attribute[go_sem]ajk alC alD
@[go_sem] theorem ahm {k:TI->OR}:aO ts ty k=Rz k (ts ty):=by unfold aO Rz;cases ts ty <;>rfl
@[go_sem] def aeK:= @Rz.eq_1
@[go_sem] def ac4:= @lV.eq_1
variable {want:Bool}
def aba:lV ops g c want .any=.any:=(rfl)
def aeL{v:Value}:lV ops g c want (.v v)=.v v:=(rfl)
attribute[go_sem]aba aeL
@[go_sem] def alE:= @FY.eq_1
@[go_sem] def alF:= @FY.eq_2
@[go_sem] def alG:= @FY.eq_3
@[go_sem] def ahn:= @Al.eq_1
@[go_sem]def aho {t:List (Nat×SV)}{h:List Ob}:ata ⟨t,h⟩=bif p8 h then ⟨QS h t,Ak h⟩else ⟨t,h⟩:=(rfl)
@[go_sem] def alH:= @raw.eq_1
@[go_sem] def ahp:= @raw.eq_2
@[go_sem] def ajl:= @raw.eq_3
@[go_sem] theorem amZ {n:Nat}{s:SV}{r:List (Nat×SV)}:lk n ((n,s)::r)=s:=by simp[lk]
@[go_sem] def alI:= @lk.eq_2
@[go_sem] def am0:= @lk.eq_1
@[go_sem] def alJ:= @bT.eq_3
@[go_sem] def ahq:= @bT.eq_2
@[go_sem] def ahr:= @bT.eq_4
@[go_sem] def ajm:= @bT.eq_5
@[go_sem] def ajn:= @bT.eq_21
@[go_sem] def ajo:= @bT.eq_6
@[go_sem] def ajp:= @bT.eq_7
@[go_sem] def ajq:= @bT.eq_8
@[go_sem] def ajr:= @bT.eq_9
@[go_sem] def ajs:= @bT.eq_10
@[go_sem] def ajt:= @bT.eq_11
@[go_sem] def aju:= @bT.eq_12
@[go_sem] def ajv:= @bT.eq_13
@[go_sem] def ajw:= @bT.eq_14
@[go_sem] def ahs:= @bT.eq_15
@[go_sem] def aht:= @bT.eq_16
@[go_sem] def ajx:= @bT.eq_17
@[go_sem] def ajy:= @bT.eq_1
end
section
variable {ti te:TI}{esz nx id id2 off:Nat}{h:List Ob}{k k2:Tag}{i j n c:Int}{kk kj:IntKind}{lo hi:Option SV}{key s:SV}{ok:Bool}{ts:Tis}{op:BinOp}{ty:Nat}
@[go_sem] def avl:= @one.eq_1
@[go_sem]def avo {α:Type}{x y:α}{l:List α}:one (x::y::l)=false:=(rfl)
@[go_sem] def alK:= @NV.eq_1
variable {g:Option (Nat×Bool)}
def alL{s:Nat}{l:List SV}:NV g nx te (.asD (.ls s l))=.asD (.ls s l):=(rfl)
def alM:NV g nx te (.asD .e0)=.asD .e0:=(rfl)
def ajz {a b:Int}:Ls ts op ty (.v (.int kk a)) (.v (.int kj b))=bif D9 op kk kj then v8 op kk a b else .bad:=(rfl)
attribute[go_sem]alL alM ajz
variable {l:List k.T}
def alN:Ls ts op ty (.rs k l) (.v (.slice none 0 0))=aO ts ty λa=>bif a.isSlice then aam op (l=[])else .bad:=(rfl)
def ajA {a b:ByteArray}:Ls ts op ty (.v (.string a)) (.v (.string b))=aO ts ty λc=>bif Nat.beq c.sc 2 then SP op a b else .bad:=(rfl)
def ahu {a b:Bool}:Ls ts op ty (.v (.bool a)) (.v (.bool b))=aO ts ty λc=>bif Nat.beq c.sc 3 then Lr op a b else .bad:=(rfl)
def ajB {a b:List SV}:Ls ts op ty (.agg a) (.agg b)=aO ts ty λc=>eqT op a b c:=(rfl)
attribute[go_sem]alN ajA ahu ajB
@[go_sem] def ahv:= @jk.eq_1
@[go_sem] def ahw:= @jk.eq_2
@[go_sem] def ahx:= @jk.eq_3
@[go_sem] def ahy:= @jk.eq_4
@[go_sem] def aeM:= @jk.eq_5
@[go_sem] def ahz:= @jk.eq_6
@[go_sem] def ahA:= @jk.eq_7
@[go_sem] def alO:= @vM.eq_1
@[go_sem] def ajC:= @vM.eq_2
@[go_sem] def alP:= @vM.eq_4
@[go_sem] def alQ:= @vM.eq_3
@[go_sem] def alR:= @vM.eq_5
@[go_sem] def alS:= @vM.eq_6
@[go_sem] def alT:= @vM.eq_7
def ajD{a b:Int}:F7 ti none (some (.i a)) (.i b) (.rs k l)=bif ti.isSlice then .chk (a=(l.length:Int)/\b=(l.length:Int)) (.rc k l)else .bad:=(rfl)
def ahB:F7 ti none (some (.i 0)) (.i 0) (.v (.slice none 0 0))=bif ti.isSlice then .val (.v (.slice none 0 0))else .bad:=(rfl)
attribute[go_sem]ajD ahB
@[go_sem] def ahC:= @pc.eq_1
@[go_sem] def ahD:= @pc.eq_2
@[go_sem] def aeN:= @Wo.eq_1
@[go_sem] def ajE:= @bnd.eq_1
@[go_sem] def ajF:= @bnd.eq_2
@[go_sem] def ahE:= @aav.eq_1
@[go_sem] def ahF:= @aaw.eq_1
@[go_sem] def alU:= @mkS.eq_1
@[go_sem] def alV:= @nU.eq_1
@[go_sem] def alW:= @nU.eq_2
def ahG:nU te nx h [.os id,(.rs k l)]=x8 te nx [(id,.dead)] h (.rs k l) (ap h id):=(rfl)
def ahH:nU te nx h [.v (.slice none 0 0),(.rs k l)]=wU te nx h (.rs k l) te.tag:=(rfl)
attribute[go_sem]ahG ahH
@[go_sem] def alX:= @nU.eq_7
@[go_sem] def alY:= @aas.eq_1
def ahI:nU te nx h [.e0,(.rs k l)]=wU te nx h (.rs k l) te.tag:=(rfl)
def aeO:nU te nx h [.os id,(.v (.slice none 0 0))]=x8 te nx [(id,.dead)] h (.v (.slice none 0 0)) (ap h id):=(rfl)
def aeP:nU te nx h [.v (.slice none 0 0),(.v (.slice none 0 0))]=wU te nx h (.v (.slice none 0 0)) te.tag:=(rfl)
def aeQ:nU te nx h [.e0,(.v (.slice none 0 0))]=wU te nx h (.v (.slice none 0 0)) te.tag:=(rfl)
def ahJ:nU te nx h [.os id,.e0]=x8 te nx [(id,.dead)] h .e0 (ap h id):=(rfl)
def ahK:nU te nx h [.v (.slice none 0 0),.e0]=wU te nx h .e0 te.tag:=(rfl)
def ahL:nU te nx h [.e0,.e0]=wU te nx h .e0 te.tag:=(rfl)
def ahM {s:Nat}{a b:Int}:nU te nx h [.os id,(.vw s id2 a b)]=x8 te nx [(id,.dead)] h (.vw s id2 a b) (ap h id):=(rfl)
def ahN {s:Nat}{a b:Int}:nU te nx h [.v (.slice none 0 0),(.vw s id2 a b)]=wU te nx h (.vw s id2 a b) te.tag:=(rfl)
def ahO {s:Nat}{a b:Int}:nU te nx h [.e0,(.vw s id2 a b)]=wU te nx h (.vw s id2 a b) te.tag:=(rfl)
attribute[go_sem]ahI aeO aeP aeQ ahJ ahK ahL ahM ahN ahO
@[go_sem] def ahP:= @nU.eq_3
@[go_sem] def ajG:= @aar.eq_1
def ahQ:nU te nx h [.v (.slice none 0 0),(.os id2)]=wU te nx h (.os id2) te.tag:=(rfl)
def ahR:nU te nx h [.e0,(.os id2)]=wU te nx h (.os id2) te.tag:=(rfl)
attribute[go_sem]ahQ ahR
@[go_sem] theorem aeR:Bw k k l=some l:=by simp[Bw]
@[go_sem] def alZ:= @v_.eq_1
@[go_sem] def ajH:= @v_.eq_2
@[go_sem] def al0:= @v_.eq_3
@[go_sem] def al1:= @v_.eq_4
@[go_sem] def al2:= @v_.eq_5
@[go_sem] def ajI:= @ve.eq_1
@[go_sem] def ajJ:= @ve.eq_2
@[go_sem] def ahS:= @ve.eq_3
@[go_sem] def al3:= @Lz.eq_1
def ajK:CU (.v (.int kk n))=some [(.v (.int kk n))]:=(rfl)
def ajL {b:ByteArray}:CU (.v (.string b))=some [.v (.string b)]:=(rfl)
def ahT {b:Bool}:CU (.v (.bool b))=some [.v (.bool b)]:=(rfl)
def al4:CU (.rs k l)=some [.rs k l]:=(rfl)
def al5 {l:List (k.T×k2.T)}:CU (.rm k k2 l)=some [.rm k k2 l]:=(rfl)
def al6:CU .e0=some [.e0]:=(rfl)
def ajM:CU (.v (.slice none 0 0))=some [.v (.slice none 0 0)]:=(rfl)
def ahU:CU (.v (.map none))=some [.v (.map none)]:=(rfl)
attribute[go_sem]ajK ajL ahT al4 al5 al6 ajM ahU
@[go_sem] def ahV:= @taS.eq_1
end
@[go_sem]def avt (a b:Nat):Nat.beq a b=(a==b):=by
 rw[ape];simp
@[go_sem]def avv (a b:Nat):Nat.ble a b=decide (a<=b):=by
 rw[ape];simp
@[go_sem]def avu (a b:Nat):Nat.blt a b=decide (a<b):=by
 rw[ape];simp[Nat.blt];omega
section
variable {σ:Type}{D:σ->St}{I:σ->Prop}{m:σ->Nat}{x:σ}{id n0:Nat}{Q:Ex->St->Prop}{st:St}{rs:List ResultVar}{post:SV->Prop}{ts:Tis}{pp:Value->Prop}{C:arV}{md:Bool}
@[go_sem] def aaf:= @wX.eq_1
@[go_sem] def ac5:= @wX.eq_2
@[go_sem] def aeS:= @wX.eq_3
@[go_sem] def aeT:= @wX.eq_4
@[go_sem] def aag:= @jO.eq_1
@[go_sem] def ahW:= @Gf.eq_3
@[go_sem] def abb:= @Gf.eq_2
@[go_sem] def ahX:= @Gf.eq_4
@[go_sem] def abc:= @N3.eq_2
@[go_sem] def ahY:= @N3.eq_3
@[go_sem] def ahZ:= @N3.eq_4
@[go_sem] def aeU:= @Gg.eq_1
@[go_sem]def am1 {a:List Nat}{t c:List (Nat×SV)}{h b:List Ob}:Sub a n0 ⟨t,h⟩ ⟨c,b⟩=((uniq (nV a b)=true/\CZ 0 a n0=true/\a.all (λj=>Nat.blt j h.length)=true)/\Uu (Ge a) b.length t c/\I5 (Ge a) b.length h a b):=(rfl)
end
attribute [go_sem] acy Wn
attribute [go_sem] decide_true decide_false cond_true cond_false List.any_cons List.any_nil Option.isSome_none Option.isSome_some Bool.or_false Bool.false_or Bool.or_true Bool.true_or Bool.and_true Bool.true_and Bool.and_false Bool.false_and Bool.not_true Bool.not_false List.length_cons List.length_nil List.map_cons List.map_nil List.flatMap_cons List.flatMap_nil List.append_nil List.isEmpty_nil List.isEmpty_cons Option.map_some Option.map_none Option.bind_some Option.getD_some Option.getD_none Option.toList_some Option.toList_none List.cons_append List.nil_append Nat.zero_add Nat.add_zero Nat.zero_mul Nat.mul_one Nat.one_mul
 tx EM nth NR v8 D9 aam SP Lr eqV Bt eqL eqO eqT adB kN I4 unS v9 tq Bu FZ CV CW Lt QH QI mY tt EN ue We SQ QK QL QM sR uf F0 Wf Lu Ly aau aat p8 S3 Ak adT QS Wz aiG Wg NS Lv QO acv lsS bsT bsU aiE osL osV aan adH acx bsG bsS noG Wl Bv aao adJ adI Lw Lx Wm F4 NW aap adK Wp aaq x8 NX F6 adL wU mkT aax J2 mP J3 noE SX Wq adN adO EO Ul Um Bx adP adQ adR adS AH adM AG SW mmR zsO svT NQ unT pP aiw
 dY gK yu aaz S0 Wv frz aaA Uo jq asC dM kf aZ ui j_ gu Ww reach EP AI Bz ren wV Ur inN vN tu lC oh ap cW br fS gI LB qR mw Uq By aiz aiA Wh SR Wi aiB adD QP SS NT Wj adE NU aiC adF Wk adG aiD SU acw QQ fpU J4 qQ cut NP sz sQ FW iG cellsOf pY xN ez fit vZ toI toB toS toF fnV vX yl ym vY yn Bl yo FR V_ AD CP CQ Wa EK Ui Wb Bm I2 CR aak NK Bn Bo Wc Lp NL Uj Uk QE EL I3 CS aal mX lH yp
 at0 mkE NM AE AF Bp Bk fg aa FX Br dO kv pZ aaD Us N2 sS u6 aiI Gb yy Am Eb acB wW uniq Ut Gc aay LA Wr Ws SY D_ Wu Wt ap1 QJ wT List.all_cons List.all_nil arM NJ Uu I5 LH S4 wkL Gd unp d_ xQ oj nV CZ Ge
end Go.Sx
end
section
namespace Go.Sx
open IntKind (i64)
open Go.RowKit
universe u
variable {P:Program}
def ae (f:Func):Code:=match f.body with|some c=>c|none=>.skip
def L0:xP:=λ_ _=>none
@[go_sem] def al7:= @L0.eq_1
def mkP:List (Nat×(m0))->FuncId->List SV->Option Con
 | [],_,_=>none|(n,C)::r,f,l=>bif Nat.beq n f then C l else mkP r f l
def mkO:List (Nat×(List SV->List Ob->Option arV))->FuncId->List SV->List Ob->Option arV
 | [],_,_,_=>none|(n,C)::r,f,l,h=>bif Nat.beq n f then C l h else mkO r f l h
def RA:∀ (E:List (Nat×(m0))),(∀ x∈E,X1 P x.1 x.2)->∀ f,X1 P f (mkP E f)
 | [],_,f=>⟨λl c h=>(by cases h),λl c h=>(by cases h)⟩
 |(n,C)::r,h,f=>by
  have W:=RA r (λx O=>h x (by simp[O])) f;cases V:Nat.beq n f with
  |false=>
   simp_all [mkP]
  |true=>
   simp_all [mkP]
def RB:∀ (E:List (Nat×(List SV->List Ob->Option arV))),(∀ x∈E,arT P x.1 x.2)->∀ f,arT P f (mkO E f)
 | [],_,f=>⟨λl h c hc=>(by cases hc),λl h c hc=>(by cases hc)⟩
 |(n,C)::r,h,f=>by
  have W:=RB r (λx O=>h x (by simp[O])) f;cases V:Nat.beq n f with
  |false=>
   simp_all [mkO]
  |true=>
   simp_all [mkO]
def noY:List SV->Res->Option as9:=λ_ _=>none
def aeV:YOk P noY:=λl r c h=>(by cases h)
def mkG (a:List (Nat×(m0)))(b:List (Nat×(List SV->List Ob->Option arV))):Cons:=⟨mkP a,mkO b,noY⟩
def na {E:List (Nat×(m0))}{O:List (Nat×(List SV->List Ob->Option arV))}(a:∀ x∈E,X1 P x.1 x.2)(b:∀ x∈O,arT P x.1 x.2):arD P (mkG E O):=⟨RA E a,RB O b,aeV⟩
variable {ps:List (Nat×(m0))}{os:List (Nat×(List SV->List Ob->Option arV))}
def aur:(mkG ps os).p=mkP ps:=(rfl)
def auk:(mkG ps os).o=mkO os:=(rfl)
attribute[go_sem]aur auk
@[go_sem] def al8:= @mkP.eq_1
@[go_sem] def ajN:= @mkP.eq_2
@[go_sem] def al9:= @mkO.eq_1
@[go_sem] def ajO:= @mkO.eq_2
section
variable {α:Type u}
def pI (k:Int->List SV->Option α):List SV->Option α
 | .v (.int .i64 n)::r=>k n r|_=>none
def pU (k:Int->List SV->Option α):List SV->Option α
 | .v (.int .u64 n)::r=>k n r|_=>none
def pB (k:Bool->List SV->Option α):List SV->Option α
 | .v (.bool b)::r=>k b r|_=>none
def pS (k:ByteArray->List SV->Option α):List SV->Option α
 | .v (.string b)::r=>k b r|_=>none
def Kt (t:Tag)(k:List t.T->List SV->Option α)(r:List SV)(a:Tag)(l:List a.T):Option α:=if h:a=t then k (h▸l) r else none
def pR (t:Tag)(k:List t.T->List SV->Option α):List SV->Option α
 | .rs k' l::r=>Kt t k r k' l|_=>none
def pDo {T:Type}(k:T->List SV->Option α)(r:List SV):Option T->Option α
 |some x=>k x r|none=>none
def pD (t:Tag)(k:t.T->List SV->Option α):List SV->Option α
 | .agg l::r=>pDo k r (xN t l)|_=>none
def pX (t:Tag)(k:t.T->List SV->Option α):List SV->Option α
 | .ep l 0::r=>pDo k r (xN t l)|_=>none
def Xj (t a:Tag)(k:List (t.T×a.T)->List SV->Option α)(r:List SV)(b c:Tag)(l:List (b.T×c.T)):Option α:=if h:b=t/\c=a then k (h.1▸h.2▸l) r else none
def pM (t t2:Tag)(k:List (t.T×t2.T)->List SV->Option α):List SV->Option α
 | .rm k' k2 l::r=>Xj t t2 k r k' k2 l|_=>none
def pE (c:α):List SV->Option α
 | [] =>some c|_=>none
variable {k:Int->List SV->Option α}{kb:Bool->List SV->Option α}{ks:ByteArray->List SV->Option α}{r:List SV}{c:α}{t:Tag}
@[go_sem] def al_:= @pI.eq_1
@[go_sem] def ama:= @pU.eq_1
@[go_sem] def amc:= @pB.eq_1
@[go_sem] def amd:= @pS.eq_1
@[go_sem] theorem ame {kr:List t.T->List SV->Option α}{l:List t.T}:pR t kr (.rs t l::r)=kr l r:=by simp[pR,Kt]
@[go_sem] def amf:= @pD.eq_1
@[go_sem] def amg:= @pX.eq_1
@[go_sem] theorem amh {t2:Tag}{kr:List (t.T×t2.T)->List SV->Option α}{l:List (t.T×t2.T)}:pM t t2 kr (.rm t t2 l::r)=kr l r:=by simp[pM,Xj]
@[go_sem] def ajP:= @pDo.eq_1
@[go_sem] def am2:= @pE.eq_1
variable {l:List SV}
theorem RD{c:α}(h:pI k l=some c):∃ n r,l=.i n::r/\k n r=some c:=by
 unfold pI at h;grind
theorem L_{c:α}(h:pU k l=some c):∃ n r,l=.v (.int .u64 n)::r/\k n r=some c:=by
 unfold pU at h;grind
theorem aeW{c:α}(h:pB kb l=some c):∃ n r,l=.v (.bool n)::r/\kb n r=some c:=by
 unfold pB at h;grind
theorem nc{c E:α}(h:pE E l=some c):l=[]/\c=E:=by
 grind [pE]
theorem Xk{kr:List t.T->List SV->Option α}{c:α}(h:pR t kr l=some c):∃ x r,l=.rs t x::r/\kr x r=some c:=by
 unfold pR at h;grind [Kt]
variable {kd:t.T->List SV->Option α}
theorem GS{c:α}(h:pX t kd l=some c):∃ x r,l=.ep (cellsOf t x) 0::r/\kd x r=some c:=by
 unfold pX at h;split at h;rename_i l' r;cases E:xN t l' with
 |none=>rw[E]at h;cases h
 |some x=>rw[E]at h;exact⟨x,r,by rw[sg E],h⟩
 cases h
theorem Xl{t2:Tag}{kr:List (t.T×t2.T)->List SV->Option α}{c:α}(h:pM t t2 kr l=some c):∃ x r,l=.rm t t2 x::r/\kr x r=some c:=by
 unfold pM at h;split at h;unfold Xj at h;grind
 cases h
theorem ut{c:α}(h:pD t kd l=some c):∃ x r,l=.agg (cellsOf t x)::r/\kd x r=some c:=by
 unfold pD at h;split at h;rename_i l' r;cases E:xN t l' with
 |none=>rw[E]at h;cases h
 |some x=>rw[E]at h;exact⟨x,r,by rw[sg E],h⟩
 cases h
end
section
variable {F:Nat->Prop}{own:Own}{w:World}
theorem GU {p:Pk}{s:SV}{v:Value}(h:Rel F own w s v):Rel F own w (AF p s) v:=by
 unfold AF;split;cases h with
 |agg W h1=>
  refine .agg (by grind [BE]) λj s O=>?_;obtain⟨s0,V,E| ⟨k,E⟩⟩:=wd _ _ _ _ O;grind
  subst E;exact p_ (h1 j _ V)
 exact p_ h;exact p_ h;exact h
theorem GV:∀ (E:List Pk) (l:List SV),(Bp E l).length=l.length
 | [],l=>by simp[Bp]
 |k::ks,[] =>by simp[Bp]
 |k::ks,s::r=>by simp[Bp,GV ks r]
theorem GW:∀ (E:List Pk) (l:List SV) (j:Nat) (s:SV),(Bp E l)[j]? =some s->∃ s0,l[j]? =some s0/\(s=s0\/∃ p,s=AF p s0)
 | [],l,j,s,h=>⟨s,by grind [Bp],.inl rfl⟩
 |k::ks,[],j,s,h=>by simp[Bp]at h
 |k::ks,x::r,0,s,h=>by grind [Bp]
 |k::ks,x::r,j+1,s,h=>by simpa using GW ks r j s h
theorem X1.norm {f:FuncId}{C:m0}(X:List Pk)(h:X1 P f C):X1 P f (λl=>C (Bp X l)):=
 ⟨λl c hc=>h.enter _ c hc,λl c hc O F w vs hF E=>h.calls _ c hc O F w vs hF ⟨by rw[GV];exact E.1,λj s Y=>by
  obtain⟨s0,W,V| ⟨p,V⟩⟩:=GW _ _ _ _ Y;subst V;exact E.2 j _ W;subst V;exact GU (E.2 j _ W)⟩⟩
end
attribute [go_sem] eA lK pn
attribute [go_sem] xN
def noH {α:Type 1}:List Ob->Option α->Option α
 | [],x=>x|_,_=>none
@[go_sem] def ami:= @noH.eq_1
theorem Tr {α:Type 1}{h:List Ob}{x:Option α}{c:α}(E:noH h x=some c):h=[]/\x=some c:=by
 cases h with
 |nil=>exact⟨rfl,E⟩|cons=>cases E
theorem aw {n:Int}(h1: -9223372036854775808<=n)(h2:n<9223372036854775808):i64.wrap n=n:=by
 simp[IntKind.wrap,IntKind.bits,IntKind.signed];omega
end Go.Sx
end
section
namespace Go.Sx
open Go.RowKit
open IntKind (i64)
def aj {ρ σ:Type}(step:Nat->σ->ρ⊕σ):Nat->Nat->σ->ρ⊕σ
 |0,_,s=>.inr s
 |n+1,i,s=>match step i s with
  | .inl r=>.inl r| .inr s'=>aj step n (i+1) s'
def cG {ρ σ τ:Type}(step:τ->σ->ρ⊕σ):List τ->σ->ρ⊕σ
 | [],s=>.inr s
 |x::l,s=>match step x s with
  | .inl r=>.inl r| .inr s'=>cG step l s'
def Ku {ρ σ τ:Type}(f:τ->σ->ρ⊕σ)(d:τ):∀ (l pre:List τ) (s:σ),aj (λi s=>f ((pre++l).getD i d) s) l.length pre.length s=cG f l s
 | [],_,_=>rfl
 |x::l,pre,s=>by
  simp only[aon,aj,cG];have e:(pre++x::l).getD pre.length d=x:=by simp
  rw[e];cases f x s with
  |inl r=>rfl
  |inr s'=>
   have:=Ku f d l (pre++[x]) s';grind
def tD {ρ σ τ:Type}(f:τ->σ->ρ⊕σ)(d:τ)(l:List τ)(s:σ):aj (λi s=>f (l.getD i d) s) l.length 0 s=cG f l s:=Ku f d l [] s
def LC {ρ σ:Type}(pre:Prop)(run:ρ⊕σ)(exE:ρ->Ex)(arw:ρ->St)(arP:σ->St):asq:=
 {α:=ρ⊕σ,pre:=pre,post:=λr=>r=run,ex:=λr=>match r with| .inl x=>exE x| .inr _=>.normal,out:=λr=>match r with| .inl x=>arw x| .inr s=>arP s}
@[go_sem]def OC {ρ σ:Type}{pre:Prop}{run:ρ⊕σ}{exE:ρ->Ex}{arw:ρ->St}{arP:σ->St}{Q:Ex->St->Prop}:
  tw Q (some (LC pre run exE arw arP))=(pre/\(∀ x,run=.inl x->Q (exE x) (arw x))/\∀ s,run=.inr s->Q .normal (arP s)):=by
 apply propext;constructor
 rintro⟨h1,h2⟩;exact⟨h1,λx hx=>h2 (.inl x) hx.symm,λs hs=>h2 (.inr s) hs.symm⟩;rintro⟨h1,h2,h3⟩;refine⟨h1,λr hr=>?_⟩;cases r with
 |inl x=>exact h2 x hr.symm|inr s=>exact h3 s hr.symm
section
variable {P:Program}{ρ σ:Type}
def abd (step:Nat->σ->ρ⊕σ)(n:Nat)(exE:ρ->Ex)(arw:ρ->St)(arP:σ->St)(n0 k:Nat)(s:σ)(e:Ex)(st:St):Prop:=
 (∃ js,n<=k/\e=.normal/\n0<=(arP s).h.length/\Sub js n0 st (arP s))\/∃ x js,k<n/\step k s=.inl x/\exE x=e/\n0<=(arw x).h.length/\Sub js n0 st (arw x)
def Ma (step:Nat->σ->ρ⊕σ)(n:Nat)(exE:ρ->Ex)(arw:ρ->St)(arP:σ->St)(D:Nat->σ->St)(J:Nat->σ->Prop)(n0 id k:Nat)(s:σ):Ex->St->Prop
 | .normal,st=>k<n/\∃ s' js,step k s=.inr s'/\J (k+1) s'/\n0<=(D (k+1) s').h.length/\Sub js n0 st (D (k+1) s')| .exit j,st=>bif Nat.beq j id then abd step n exE arw arP n0 k s .normal st else abd step n exE arw arP n0 k s (.exit j) st| .ret,st=>abd step n exE arw arP n0 k s .ret st| .pan x,st=>abd step n exE arw arP n0 k s (.pan x) st
variable {step:Nat->σ->ρ⊕σ}{n n0 id k j:Nat}{exE:ρ->Ex}{arw:ρ->St}{arP:σ->St}{D:Nat->σ->St}{J:Nat->σ->Prop}{s:σ}{st:St}{x:Value}
@[go_sem] def aah:= @Ma.eq_1
@[go_sem] def ac6:= @Ma.eq_2
@[go_sem] def aeX:= @Ma.eq_3
@[go_sem] def aeY:= @Ma.eq_4
end
def itY (items:List (List SV))(r:Nat->Res):List SV->Res->Option as9:=λargs x=>
 some { α:=Bool,pre:=x=r x.n/\1<=x.n/\items[x.n - 1]? =some args,post:=λ_=>True,res:=λb=>(b,r (if b then x.n+1 else 0))}
def AQ (P:Program)(f:FuncId)(mk:SV->List SV)(hs:List Ob)(items:List (List SV)):Prop:=
 (∀ (args:Array Value) (w:World),(callFunc f args).run P w=.ok (.enter f args) w)/\
 ∀ r:Nat->Res,(∀ k,(r k).n=k)->YOk P (itY items r)->∀ (F:Nat->Prop) (own:Own) (w:World) (vs:Array Value),Hp F own w (.ab (r 1)::hs)->ar7 F own w (mk (.os 0)) vs->
  Calls P f vs w (λe w'=>∃ u ee j h',e=.returned u/\(j=0\/j=items.length+1)/\Hp F ee w' (.ab (r j)::h')/\Fr { w:=w,own:=own} ee w')
variable {items:List (List SV)}
theorem OD{P:Program}{f:FuncId}{W:SV->List SV}{V:List Ob}
  (h:∀ r:Nat->Res,(∀ k,(r k).n=k)->YOk P (itY items r)->∃ C,arT P f C/\∃ c,C (W (.os 0)) (.ab (r 1)::V)=some c/\c.pre/\∀ x,c.post x->∃ s j h',c.res x=.ret s (.ab (r j)::h')/\(j=0\/j=items.length+1))
  (X:∀ (args:Array Value) (w:World),(callFunc f args).run P w=.ok (.enter f args) w):AQ P f W V items:=by
 refine⟨X,λr hr hy F own w vs Y E=>?_⟩;have⟨C,hC,c,h1,h2,h3⟩:=h r hr hy;refine(hC.calls _ _ c h1 h2 F own w vs Y E).mono ?_;rintro e w' ⟨x,ee,q1,O⟩;have⟨s,j,h',k1,k2⟩:=h3 x q1;rw[k1]at O;obtain⟨⟨u,rfl,_⟩,q3,q4,_⟩:=O;grind
def OE (a:Prop)(r:Nat->Res)(m:Nat):as9:= { α:=Bool,pre:=a,post:=λ_=>True,res:=λb=>(b,r (if b then m else 0))}
def Da{r:Nat->Res}(hr:∀ k,(r k).n=k)(k:Nat)(args:List SV):itY items r args (r (k+1))=some (OE (items[k]? =some args) r (k+2)):=by
 grind [itY,OE]
section
variable {id m:Nat}{t:List (Nat×SV)}{h:List Ob}{K:St->Prop}{pre:Prop}{r:Nat->Res}{ops:List Oper}{g:Nat×Bool}
theorem two {p:Bool->Prop}:(∀ b,p b)=(p true/\p false):=propext ⟨λh=>⟨h true,h false⟩,λh b=>by
 cases b <;>grind⟩
@[go_sem] theorem amj {d:Nat}:QR id (some d) ⟨t,h⟩ K (some (OE pre r m))=(pre/\K ⟨(d,.b true)::t,cW h id (.ab (r m))⟩/\K ⟨(d,.b false)::t,cW h id (.ab (r 0))⟩):=by
 show(pre/\∀ b:Bool,True->K ⟨(d,.b b)::t,cW h id (.ab (r (if b then m else 0)))⟩)=_;grind
@[go_sem] theorem amk {d:Nat}:N1 id ops g (some d) ⟨t,h⟩ K (some (OE pre r m))=((dY ops t ops.length g->pre/\K ⟨(d,.gd g.1 g.2 (.b true))::t,cW h id (.ab (r m))⟩/\K ⟨(d,.gd g.1 g.2 (.b false))::t,cW h id (.ab (r 0))⟩)/\(gK ops t ops.length g->K ⟨(d,.gd g.1 g.2 .any)::t,h⟩)):=by
 show((dY ops t ops.length g->pre/\∀ b:Bool,True->K ⟨(d,.gd g.1 g.2 (.b b))::t,cW h id (.ab (r (if b then m else 0)))⟩)/\(gK ops t ops.length g->K ⟨(d,.gd g.1 g.2 .any)::t,h⟩))=_;grind
end
def abe (a:Own)(n:Nat):List Nat:=(List.range n).flatMap λb=>match a b with|some c=>c.bs|none=>[]
theorem GX {own:Own}{n:Nat}(hd:∀ id hd,own id=some hd->id<n)(b:Nat):b∈abe own n↔∃ id hd,own id=some hd/\b∈hd.bs:=by
 grind [abe]
section
variable {P:Program}{w0:Bs}{ts:Tis}{G:Cons}{L:xP}{N:Nat}
def Fw (F:Nat->Prop)(l:Nat)(w:World)(b:Nat):Prop:=(F b/\b<w.heap.size)\/b=l
structure att where
 l:Nat
 fn:FuncId
 tmps:Array Value
 ps:Array Tmp
 assign:Code
 body:Code
 D:Nat
def att.obj (x:att)(s:LoopState)(p:Option Code):Obj:=.loop { state:=s,pending:=p,fn:=x.fn,tmps:=x.tmps,params:=x.ps,assign:=x.assign,body:=x.body,defers:=x.D}
structure Pack (x:att)(T:List (Nat×SV))(dP:Own)(n0:Nat)(H:List Ob)(o:Obj)(ee:Own)(F:Nat->Prop)(bs:List Nat)(w:World):Prop where
 hp:Hp (Fw F x.l w) ee w H
 slots:∀ t,Rel (Fw F x.l w) ee w (lk t T) (x.tmps.getD t undef)
 bs:∀ b,b∈bs↔b=x.l\/∃ id hd,ee id=some hd/\b∈hd.bs
 ids:∀ id hd,dP id=some hd->∃ hd',ee id=some hd'/\hd.like hd'
 nl:¬F x.l
 rcd:w.heap[x.l]? =some o
 le:n0<=H.length
variable {x:att}{n0:Nat}
theorem Pack.loc{T:List (Nat×SV)}{dP:Own}{H:List Ob}{o:Obj}{ee:Own}{F F':Nat->Prop}{bs:List Nat}{w w':World}(h:Pack x T dP n0 H o ee F bs w)(W:w.heap.size<=w'.heap.size)
  (Y:∀ b,b<w.heap.size->¬F b->w'.heap[b]? =w.heap[b]?) (hF:∀ b,b<w.heap.size->F' b->F b):Pack x T dP n0 H o ee F' bs w':=by
 have hl:=vj h.rcd;have hc:asa (Fw F x.l w) ee w (Fw F' x.l w') ee w':=⟨λ_ hd e=>⟨hd,e,.refl _⟩,λb O hn=>⟨λho=>hn (ho.imp (λq=>q.imp (λ⟨q1,_⟩ =>⟨hF b O q1,O⟩) (λe=>e)) (λe=>e)),Y b O λX=>hn (.inl (.inl ⟨X,O⟩))⟩⟩;have hob:∀ id hd b,ee id=some hd->b∈hd.bs->w'.heap[b]? =w.heap[b]?:=λid hd b e E=>Y b (h.hp.lt id hd b e E) λX=>h.hp.apart id hd b e E (.inl ⟨X,h.hp.lt id hd b e E⟩);refine⟨⟨h.hp.dom,λb V=>?_,λid hd b e E V=>?_,h.hp.inj,λid hd b e E=>aoy (h.hp.lt id hd b e E) W,λid hdd=>?_⟩,λt=>(h.slots t).carry hc,h.bs,h.ids,λX=>h.nl (hF _ hl X),by rw[Y _ hl h.nl];exact h.rcd,h.le⟩;rcases V with⟨_,q⟩ |rfl <;>grind;have hlt:=h.hp.lt id hd b e E;rcases V with⟨q,_⟩ |q;exact h.hp.apart id hd b e E (.inl ⟨hF b hlt q,hlt⟩);exact h.hp.apart id hd b e E (.inr q);have⟨hd,e1,e2⟩:=h.hp.obs id hdd;exact⟨hd,e1,e2.carry hc W λb E=>hob id hd b e1 E⟩
def psT:List Nat->List SV->List (Nat×SV)
 |p::ps,s::r=>(p,s)::psT ps r|_,_=>[]
def itQ {σ:Type}(T:List (Nat×SV))(Hx:σ->List Ob)(I:Nat->σ->Prop)(S:Ex->σ->Prop)(n0 k:Nat):Ex->St->Prop
 | .normal,st=>∃ y js,I (k+1) y/\n0<=(Hx y).length/\Sub js n0 ⟨T,st.h⟩ ⟨T,Hx y⟩| .exit j,st=>∃ y js,S (.exit j) y/\n0<=(Hx y).length/\Sub js n0 ⟨T,st.h⟩ ⟨T,Hx y⟩| .ret,st=>∃ y js,S .ret y/\n0<=(Hx y).length/\Sub js n0 ⟨T,st.h⟩ ⟨T,Hx y⟩| .pan _,_=>False
def RE:Ex->Option Code
 | .exit j=>some (.exit j)| .ret=>some .ret|_=>none
def itR {σ:Type}(x:att)(T:List (Nat×SV))(dP:Own)(n0:Nat)(Hx:σ->List Ob)(I:Nat->σ->Prop)(S:Ex->σ->Prop):Nat->Res
 |0=>{ yv:=.func (.yield x.l) #[] #[],n:=0,R:=λF bs w=>∃ e y ee,S e y/\(RE e).isSome=true/\Pack x T dP n0 (Hx y) (x.obj .done (RE e)) ee F bs w,loc:=λF F' bs w w' ⟨e,y,ee,h0,h1,h2⟩ hsz hb hF=>⟨e,y,ee,h0,h1,h2.loc hsz hb hF⟩}
 |k+1=>{ yv:=.func (.yield x.l) #[] #[],n:=k+1,R:=λF bs w=>∃ y ee,I k y/\Pack x T dP n0 (Hx y) (x.obj .ready none) ee F bs w,loc:=λF F' bs w w' ⟨y,ee,h0,h2⟩ hsz hb hF=>⟨y,ee,h0,h2.loc hsz hb hF⟩}
def ac7{σ:Type}{T:List (Nat×SV)}{dP:Own}{E:σ->List Ob}{I:Nat->σ->Prop}{S:Ex->σ->Prop}:∀ k,(itR x T dP n0 E I S k).n=k/\(itR x T dP n0 E I S k).yv=.func (.yield x.l) #[] #[]
 |0=>⟨rfl,rfl⟩|_+1=>⟨rfl,rfl⟩
theorem Xm:∀ (E:List Nat) (args:List SV) (T:List (Nat×SV)) (tmps:Array Value) (vs:List Value) (t:Nat) {F:Nat->Prop} {own:Own} {w:World},E.Nodup->(∀ p∈E,p<tmps.size)->args.length=E.length->vs.length=E.length->
  (∀ (j:Nat) (s:SV) (v:Value),args[j]? =some s->vs[j]? =some v->Rel F own w s v)->Rel F own w (lk t T) (tmps.getD t undef)->Rel F own w (lk t (psT E args++T)) (((E.zip vs).foldl (λtmps (t,a) =>tmps.setIfInBounds t a) tmps).getD t undef)
 | [],args,T,tmps,vs,t,_,_,_,_,_,V,_,_,hT=>by
  cases args with
  |nil=>exact hT|cons=>simp at V
 |p::E,[],T,tmps,vs,t,_,_,_,_,_,V,_,_,_=>by simp at V
 |p::E,s::args,T,tmps,[],t,_,_,_,_,_,_,W,_,_=>by simp at W
 |p::E,s::args,T,tmps,v::vs,t,F,own,w,hn,hp,V,W,hr,hT=>by
  rw[ao2]at hn;have O:∀ (l:List (Nat×Value)) (X:Array Value),(∀ x∈l,x.1≠p)->(l.foldl (λtmps (t,a) =>tmps.setIfInBounds t a) X).getD p undef=X.getD p undef:=by
   intro l;induction l with
   |nil=>grind
   |cons y r ih=>
    simp_all <;>grind
  simp only[List.zip_cons_cons,List.foldl_cons,psT,aoJ];rw[sW];by_cases Y:p=t
  subst Y;rw[O _ _ λx hx=>by
   have:=List.of_mem_zip hx;grind]
  simp[aoP,Array.getElem?_setIfInBounds];rw[if_pos (hp p (by simp))];exact hr 0 s v rfl rfl;rw[if_neg Y];refine Xm E args T (tmps.setIfInBounds p v) vs t hn.2 (λq hq=>g6) g6 g6 (λj s v h1 h2=>hr (j+1) s v g6 g6) ?_;simp_all
theorem U4 (l:List (Nat×Value)):∀ (E:Array Value),(l.foldl (λtmps (t,a) =>tmps.setIfInBounds t a) E).size=E.size:=by
 induction l <;>grind
theorem aeZ(X:P.follows .mixedOrders=true)(hts:ts.ok P)(hG:arD P G){σ:Type}{T:List (Nat×SV)}{dP:Own}{Hx:σ->List Ob}{I:Nat->σ->Prop}{S:Ex->σ->Prop}{items:List (List SV)}
  (hsz:x.tmps.size=N) (hn0:∀ id hd,dP id=some hd->id<n0) (hpn:x.ps.toList.Nodup) (hpN:∀ p∈x.ps.toList,p<N) (hca:dq N x.assign=true) (hcb:dq N x.body=true)
  (atz:∀ k y args,items[k]? =some args->I k y->args.length=x.ps.size/\∃ L Qx,(∀ l,ak P (some l) N L x.assign)/\(∀ l,ak P (some l) N L x.body)/\(∀ e st,Qx e st->itQ T Hx I S n0 k e st)/\exec ts G L x.assign ⟨psT x.ps.toList args++T,Hx y⟩ (λe st1=>e=.normal/\exec ts G L x.body st1 Qx)):
  YOk P (itY items (itR x T dP n0 Hx I S)):=by
 intro args rr c hc hpre F bs w vs hR hF hbs hvs;simp only[itY,aoo]at hc;subst hc;obtain⟨h1,h2,h3⟩:=hpre;generalize hk:rr.n=kk at h1 h2 h3;obtain⟨k,rfl⟩:∃ k,kk=k+1:=⟨kk - 1,g5⟩;simp only[aqL]at h3;subst h1;obtain⟨y,ee,hI,pk⟩:=hR;obtain⟨hal,L,Qx,hla,hlb,hQx,hex⟩:=atz k y args h3 hI;have hvl:vs.size=x.ps.size:=by rw[hvs.1];exact hal
 have hl:=vj pk.rcd;right;have hpfs:∀ b,Fw F x.l w b->b<w.heap.size:=λb hb=>pk.hp.arN b hb;refine⟨x.l,x.fn,(x.ps.zip vs).foldl (λtmps (t,a) =>tmps.setIfInBounds t a) x.tmps,x.assign,x.body,?_,roundIn_of_wpIn trivial ?_⟩;show(UO (.func (.yield x.l) #[] #[]) vs).run P w=_;have hy:=run_yield (P:=P) (w:=w) (l:=x.l) (args:=vs) pk.rcd hvl;grind [UO,Deferred.ofValue,invoke]
 ·
  generalize htm:(x.ps.zip vs).foldl (λtmps (t,a) =>tmps.setIfInBounds t a) x.tmps=tmps';have hFw:∀ b,F b->Fw F x.l w b:=λb hb=>.inl ⟨hb,hF b hb⟩;have hargs:ar7 (Fw F x.l w) ee w args vs:=⟨hvs.1,λj s hj=>(hvs.2 j s hj).arZ (rb (hvs.2 j s hj)) λb hb ho=>hb (by
   left;rcases ho with(⟨q,_⟩ |q) | ⟨id,hd,e,X⟩;exact .inl q;exact .inr ((pk.bs b).2 (.inl q));exact .inr ((pk.bs b).2 (.inr ⟨id,hd,e,X⟩)))⟩
  have hstart:arE (Fw F x.l w) { w:=w,own:=ee} N ee ⟨psT x.ps.toList args++T,Hx y⟩ { tmps:=tmps',defers:=[]} w:=by
   refine⟨?_,Dfr.nil,pk.hp,Fr.refl { w:=w,own:=ee},λt=>?_⟩;rw[<-htm,<-arm,U4];exact hsz;rw[<-htm,<-arm,Array.toList_zip];refine Xm x.ps.toList args T x.tmps vs.toList t hpn (λp hp=>g6) g5 g5 (λj s v h1 h2=>?_) (pk.slots t);have:=hargs.2 j s h1;simp_all
  refine wpIn_mono (tC (ro:=some x.l) (nd:=0) X hts hG x.assign hca (hla x.l) _ _ _ hex ee _ w hstart) ?_;intro e a1 w1 hq;cases e with
  |normal=>
   obtain⟨F1,own1,st1,hF1,O,_,hex1⟩:=hq;have hl1:F1 x.l:=hF1 _ (.inr rfl);have hno1:∀ id hd,ee id=some hd->x.l ∉ hd.bs:=λid hd e X=>pk.hp.apart id hd _ e X (.inr rfl);have hrec1:w1.heap[x.l]? =some (x.obj .ready none):=by
    rw[O.fr.block x.l ⟨hl,λ⟨id,hd,e,X⟩ =>hno1 id hd e X⟩];exact pk.rcd
   refine⟨w1.putObj x.l (x.obj .busy none),run_beginRound hrec1 rfl,?_⟩;have g1:aso F1 own1 w1 own1 (w1.putObj x.l (x.obj .busy none)):=⟨λ_ hd e=>⟨hd,e,.refl _⟩,λb _ hn=>⟨hn,World.putObj_heap_other λe=>hn (.inl (e▸hl1))⟩,by simp⟩;have hst2:arE F1 { w:=w.putObj x.l (x.obj .busy none),own:=ee} N own1 st1 a1 (w1.putObj x.l (x.obj .busy none)):=by
    refine⟨O.size,?_,O.hp.asx g1 λid hd b e X=>World.putObj_heap_other λe'=>O.hp.apart id hd b e X (e'▸hl1),⟨O.fr.ids,λid hd b e X ho=>O.fr.base id hd b e X ⟨by have:=ho.1;simp_all,ho.2⟩,O.fr.os,O.fr.tape,O.fr.output,by simpa using O.fr.size,λb hb=>?_⟩,λt=>(O.slots t).mono g1⟩;have⟨ms,Ds,q0,q1,q2,q3⟩:=O.defers;refine⟨ms,Ds,q0,q1,q2,λD hD=>⟨by simp_all,(q3 D hD).2.1,?_⟩⟩;grind [World.putObj_heap_other]
    by_cases e:b=x.l
    grind [World.putObj_heap_same]
    rw[World.putObj_heap_other e,World.putObj_heap_other e];exact O.fr.block b ⟨by have:=hb.1;simp_all,hb.2⟩
   refine wpIn_mono (tC (ro:=some x.l) (nd:=0) X hts hG x.body hcb (hlb x.l) _ _ _ hex1 own1 _ _ hst2) ?_;intro e a2 w2 hq
   replace hq:=wp hQx _ _ _ hq
   have key:∀ (F2:Nat->Prop) (X2:Own) (st2:St) (y2:σ) (js:List Nat) (b:Bool) (V:Option Code),(∀ c,F1 c->F2 c)->arE F2 { w:=w.putObj x.l (x.obj .busy none),own:=ee} N X2 st2 a2 w2->n0<=(Hx y2).length->Sub js n0 ⟨T,st2.h⟩ ⟨T,Hx y2⟩->b=V.isNone->
     (∀ E bs' w3,Pack x T dP n0 (Hx y2) (x.obj (if V.isNone then .ready else .done) V) E F bs' w3->(itR x T dP n0 Hx I S (if b then k+1+1 else 0)).R F bs' w3)->
     ∃ v w3,(Instr.endRound x.l V).run P w2=.ok v w3/\∃ a bs',True/\(Ending.returned v)=.returned (.bool ((a,itR x T dP n0 Hx I S (if a then k+1+1 else 0)):Bool×Res).1)/\(itR x T dP n0 Hx I S (if a then k+1+1 else 0)).R F bs' w3/\(itR x T dP n0 Hx I S (if a then k+1+1 else 0)).yv=.func (.yield x.l) #[] #[]/\YFr bs bs' w w3:=by
    intro F2 X2 st2 y2 js b V hF2 W hle Y hb hR3;subst hb;have hl2:F2 x.l:=hF2 _ hl1;have hrec2:w2.heap[x.l]? =some (x.obj .busy none):=by
     rw[W.fr.block x.l ⟨by simpa using hl,λ⟨id,hd,e,X⟩ =>hno1 id hd e X⟩];exact World.putObj_heap_same hl
    have hsz2:w.heap.size<=w2.heap.size:=by have:=W.fr.size;simp_all
    have hl2s:=aoy hl hsz2;have⟨q1,q2,q3,q4⟩:=Rw Y W.hp hle;let E:=jP js (Hx y2) X2
    let w3:=w2.putObj x.l (x.obj (if V.isNone then .ready else .done) V)
    have hF2w:∀ c,Fw F x.l w3 c->F2 c:=λc hc=>by
     rcases hc with⟨hc,_⟩ |rfl <;>grind
    have hoth:∀ c,c≠x.l->w3.heap[c]? =w2.heap[c]?:=λc hc=>World.putObj_heap_other hc;have hcar:asa F2 E w2 (Fw F x.l w3) E w3:=⟨λ_ hd e=>⟨hd,e,.refl _⟩,λc hcl hn=>⟨λho=>hn (ho.imp (hF2w c) (λe=>e)),hoth c λe=>hn (.inl (e▸hl2))⟩⟩;have hblk:∀ c,c<w.heap.size->c≠x.l->(¬ ∃ id hd,ee id=some hd/\c∈hd.bs)->w2.heap[c]? =w.heap[c]?:=λc h1 h2 h3=>by
     rw[W.fr.block c ⟨by simpa using h1,h3⟩];exact World.putObj_heap_other h2
    have hown2:∀ id hd c,X2 id=some hd->c∈hd.bs->(∃ id hd,ee id=some hd/\c∈hd.bs)\/w.heap.size<=c:=λid hd c e X=>by
     have:=W.fr.base id hd c e X;by_cases hc:c<w.heap.size
     exact .inl (aoU λhn=>this ⟨by simpa using hc,hn⟩);omega
    have gall:aso (Fw F x.l w) ee w X2 w2:=⟨W.fr.ids,λc hcl hn=>by
     have h2:c≠x.l:=λe=>hn (.inl (.inr e));have h3:¬ ∃ id hd,ee id=some hd/\c∈hd.bs:=λh=>hn (.inr h);refine⟨?_,hblk c hcl h2 h3⟩;rintro (hf| ⟨id,hd,e,X⟩);exact hn (.inl hf);grind,hsz2⟩
    have hcar2:asa (Fw F x.l w) E w2 (Fw F x.l w3) E w3:=⟨λ_ hd e=>⟨hd,e,.refl _⟩,λc hcl hn=>⟨λho=>hn (ho.imp (λhc=>by
     rcases hc with⟨hc,_⟩ |rfl;grind
     exact .inr rfl) (λe=>e)),hoth c λe=>hn (.inl (.inr e))⟩⟩
    have hpk:Pack x T dP n0 (Hx y2) (x.obj (if V.isNone then .ready else .done) V) E F (x.l::abe E (Hx y2).length) w3:=by
     refine⟨⟨q1.dom,λc hc=>?_,λid hd c e X hc=>q1.apart id hd c e X (hF2w c hc),q1.inj,λid hd c e X=>by have:=q1.lt id hd c e X;simpa[w3]using this,λid hdd=>?_⟩,λt=>?_,λc=>?_,λid hd e=>?_,pk.nl,World.putObj_heap_same hl2s,hle⟩;rcases hc with⟨_,hc⟩ |rfl;exact hc;simpa[w3]using hl2s;have⟨hd,e1,e2⟩:=q1.obs id hdd;exact⟨hd,e1,e2.carry hcar (by simp[w3]) λc X=>hoth c λe=>q1.apart id hd c e1 X (e▸hl2)⟩;rcases FD t _ Y.2.1 with e| ⟨e1,e2⟩;rw[e];exact .any _;have h1:=(pk.slots t).mono gall;have h1':Rel (Fw F x.l w) X2 w2 (ren (Ge js) 5 (lk t T)) (x.tmps.getD t undef):=e1▸h1;exact(q3 (Fw F x.l w) 5 _ _ e2 h1').carry hcar2;rw[aoD,GX q1.dom];have⟨hd1,e1,l1⟩:=pk.ids id hd e;have⟨hd2,e2,l2⟩:=W.fr.ids id hd1 e1;have⟨hd3,e3,l3⟩:=q4 id hd2 (hn0 id hd e) e2;exact⟨hd3,e3,(l1.trans l2).trans l3⟩
    refine⟨_,w3,run_endRound V hrec2,V.isNone,_,trivial,rfl,hR3 _ _ _ hpk,(ac7 _).2,W.fr.os,W.fr.tape,W.fr.output,by simpa[w3]using hsz2,λc hc hn=>?_,λc hc=>?_⟩;have h2:c≠x.l:=λe=>hn ((pk.bs c).2 (.inl e));rw[hoth c h2];exact hblk c hc h2 λh=>hn ((pk.bs c).2 (.inr h));rcases aoD.1 hc with rfl|hc;exact⟨by simpa[w3]using hl2s,.inl ((pk.bs _).2 (.inl rfl))⟩;have⟨id,hd,e,X⟩:=(GX q1.dom c).1 hc;refine⟨by have:=q1.lt id hd c e X;simpa[w3]using this,?_⟩;have⟨_,j,hd0,_,e2,_,e4⟩:=kx e;have⟨_,rfl⟩:=e4 c X;rcases hown2 j hd c e2 X with h|h;exact .inl ((pk.bs c).2 (.inr h));omega
   cases e with
   |normal=>
    have⟨F2,X2,st2,h0,W,y2,js,hI2,hle,Y⟩:=hq;exact key F2 X2 st2 y2 js true none h0 W hle Y rfl λE bs' w3 hp=>⟨y2,E,hI2,hp⟩
   |ret=>
    have⟨F2,X2,st2,h0,W,y2,js,hS2,hle,Y⟩:=hq;exact key F2 X2 st2 y2 js false (some .ret) h0 W hle Y rfl λE bs' w3 hp=>⟨.ret,y2,E,hS2,rfl,hp⟩
   |exit j=>
    have⟨F2,X2,st2,h0,W,y2,js,hS2,hle,Y⟩:=hq;exact key F2 X2 st2 y2 js false (some (.exit j)) h0 W hle Y rfl λE bs' w3 hp=>⟨.exit j,y2,E,hS2,rfl,hp⟩
   |panic ch=>have⟨x',F2,X2,st2,_,_,h,_⟩:=hq;exact h.elim|_=>exact hq.elim
  |exit j=>have⟨F1,own1,st1,_,_,h,_⟩:=hq;cases h|ret=>have⟨F1,own1,st1,_,_,h,_⟩:=hq;cases h|panic ch=>have⟨x',F1,own1,st1,_,_,⟨h,_⟩,_⟩:=hq;cases h|_=>exact hq.elim
end
section
variable {P:Program}{w0:Bs}{ts:Tis}{G:Cons}{L:xP}{N:Nat}
def sp (a:List Nat)(h:List Ob):List Ob:=br h (a.map λb=>(b,Ob.dead))
theorem Kv (h:List Ob)(id:Nat):∀ (ids:List Nat) (h:List Ob),ap (sp ids h) id=if id∈ids then .dead else ap h id
 | [],h=>by rfl
 |a::r,h=>by
  have E:=Kv h id r (cW h a .dead);have e:sp (a::r) h=sp r (cW h a .dead):=rfl;rw[e,E];by_cases h1:id∈r
  simp[h1];rw[dU];grind
def RG (a:List Nat)(i:Nat):Option Nat:=(AI i a).map (· +1)
def OF (a:List Nat)(h:List Ob):List Ob:=a.map λi=>wV (RG a) (ap h i)
def kg (a:St)(b:List SV):List Nat:=reach a.h 64 (b.flatMap (gu 3)) []
def abf (a:asq)(b:Nat)(e:Ex)(c:St):Prop:= ∃ r js,a.post r/\a.ex r=e/\b<=(a.out r).h.length/\Sub js b c (a.out r)
theorem abg {F:Nat->Prop}{own:Own}{st:St}{a:Act}{w:World}(hr:arE F w0 N own st a w)(x:Operand):Rel F own w (raw st.t x) (a.eval x):=by
 cases x with
 |tmp t=>exact hr.slots t|const v=>exact .v v
 |func f=>exact .fn rfl rfl (λj s h=>by simp at h) (λj s h=>by simp at h)
 |global g=>exact .any _
theorem OG (O:P.follows .mixedOrders=true)(hts:ts.ok P)(hG:arD P G){id:Nat}{g:Operand}{ps:Array Tmp}{assign body:Code}{C:St->Option asq}
  (hpn:ps.toList.Nodup) (hpN:∀ p∈ps.toList,p<N) (hca:dq N assign=true) (hcb:dq N body=true)
  (h:∀ st lc,C st=some lc->lc.pre->∃ (f:FuncId) (caps:List SV) (items:List (List SV)) (σ:Type) (T:List (Nat×SV)) (Hx:σ->List Ob) (I:Nat->σ->Prop) (S:Ex->σ->Prop) (x0:σ) (js:List Nat),
   raw st.t g=.fn f [] caps/\I 0 x0/\st.h.length<=(Hx x0).length/\Sub js st.h.length ⟨st.t,sp (kg st caps) st.h⟩ ⟨T,Hx x0⟩/\
   AQ P f (λy=>y::caps.map (ren (RG (kg st caps)) 3)) (OF (kg st caps) st.h) items/\
   (∀ k y args,items[k]? =some args->I k y->args.length=ps.size/\∃ L Qx,(∀ l,ak P (some l) N L assign)/\(∀ l,ak P (some l) N L body)/\(∀ e st',Qx e st'->itQ T Hx I S st.h.length k e st')/\exec ts G L assign ⟨psT ps.toList args++T,Hx y⟩ (λe st1=>e=.normal/\exec ts G L body st1 Qx))/\
   (∀ y,I items.length y->abf lc st.h.length .normal ⟨T,Hx y⟩)/\(∀ y,S .ret y->abf lc st.h.length .ret ⟨T,Hx y⟩)/\
   ∀ j y,S (.exit j) y->abf lc st.h.length (if j=id then .normal else .exit j) ⟨T,Hx y⟩):my P none N id (.rangeFunc g ps assign body) C:=by
 intro nd F w0 st lc hC hpre own a w hr;obtain⟨f,caps,items,σ,T,Hx,I,S,x0,js,hg,hI0,hle0,hsub0,hit,atz,hN,hRet,hEx⟩:=h st lc hC hpre;have asX:=abg hr g;rw[hg]at asX;generalize hev:a.eval g=gv at asX;cases asX with
 | @fn _ _ _ us lb Y e2 e3 e4=>
  have hus:us= #[]:=by
   grind
  subst hus;have hcaps:ar7 F own w caps lb:=⟨e2,e4⟩;have atc:∀ i∈kg st caps,∃ hd,own i=some hd:=zy hr.hp 64 _ [] (λi hi=>by
   have⟨x,hx,hxi⟩:=apJ.1 hi;have⟨j,hj⟩:=ao9 hx;exact L1 3 x _ (hcaps.2 j x hj) i hxi) (λi hi=>by cases hi)
  have hnd:(kg st caps).Nodup:=sh st.h 64 _ [] apL;generalize hidsE:kg st caps=ids at atc hnd hsub0 hit;refine wpIn_block (wpIn_rangeFunc λfn _=>?_);let rc:att:=⟨w.heap.size+1,fn,a.tmps,ps,assign,body,w.heap.size⟩
  let yv:Value:=.func (.yield (w.heap.size+1)) #[] #[]
  obtain⟨W,hW1⟩:∃ W,(w.alloc (.deferred (some []))).alloc (rc.obj .ready none)=W:=⟨_,rfl⟩;have hsz1:W.heap.size=w.heap.size+2:=by grind [QU]
  have hold:∀ b,b<w.heap.size->W.heap[b]? =w.heap[b]?:=λb hb=>by
   grind [sb]
  have hl1:W.heap[w.heap.size+1]? =some (rc.obj .ready none):=by
   have:=lW (w.alloc (.deferred (some []))) (rc.obj .ready none);simp_all
  have hD1:W.heap[w.heap.size]? =some (.deferred (some [])):=by
   rw[<-hW1,sb _ _ _ (by simp_all)];exact lW w _
  refine⟨w.heap.size+1,[{ target:=.collected w.heap.size,args:= #[]}],W,{ target:=.fn (.func f) lb,args:= #[yv]},W,f,#[yv]++lb,W,?_,?_,λ_ _=>trivial,?_,λh=>(by cases h),?_⟩;rw[<-hW1];exact run_enterLoop_outer _ _ _ _ _;simp[resolve,hev];simp[go_sem,yv];simp[go_sem,hit.1];let own_s:Own:=λi=>if i∈ids then(own i).map (λhd=>{ hd with bs:=[]})else own i
  let F1:Nat->Prop:=λb=>F b\/b=w.heap.size\/b=w.heap.size+1\/∃ i hd,i∈ids/\own i=some hd/\b∈hd.bs
  have hs1:∀ i hd,own_s i=some hd->∃ hd0,own i=some hd0/\hd0.like hd/\∀ b∈hd.bs,i ∉ ids/\hd=hd0:=λi hd e=>by
   by_cases hi:i∈ids
   simp[own_s,if_pos hi,apz]at e;obtain⟨hd0,Y,rfl⟩:=e;exact⟨hd0,Y,⟨rfl,rfl,rfl⟩,λb hb=>by cases hb⟩;simp[own_s,if_neg hi]at e;exact⟨hd,e,.refl _,λb _=>⟨hi,rfl⟩⟩
  have hs2:∀ i hd,own i=some hd->∃ hd',own_s i=some hd'/\hd.like hd':=λi hd e=>by
   grind
  have hcar1:asa F own w F1 own_s W:=⟨hs2,λb hb hn=>⟨by
   rintro ((hf|hf|hf| ⟨i,hd,_,e,O⟩) | ⟨i,hd,e,O⟩);exact hn (.inl hf);omega;omega;exact hn (.inr ⟨i,hd,e,O⟩);have⟨hd0,e0,_,Y⟩:=hs1 i hd e;have⟨_,rfl⟩:=Y b O;exact hn (.inr ⟨i,hd,e0,O⟩),hold b hb⟩⟩
  have hp1:Hp F1 own_s W (sp ids st.h):=by
   refine⟨λi hd e=>?_,λb hb=>?_,λi hd b e O hb=>?_,λi j hi hj b Y e2 h1 h2=>?_,λi hd b e O=>?_,λi V=>?_⟩;have⟨hd0,e0,_⟩:=hs1 i hd e;exact aoy (hr.hp.dom i hd0 e0) (AP _ _);rcases hb with hf|hf|hf| ⟨i,hd,_,e,O⟩;have:=hr.hp.arN b hf;omega;omega;omega;have:=hr.hp.lt i hd b e O;omega;have⟨hd0,e0,_,Y⟩:=hs1 i hd e;have⟨hni,rfl⟩:=Y b O;have hlt:=hr.hp.lt i hd b e0 O;rcases hb with hf|hf|hf| ⟨i2,X,h1,h2,h3⟩;exact hr.hp.apart i hd b e0 O hf;omega;omega;exact hni (hr.hp.inj i i2 hd X b e0 h2 O h3▸h1);have⟨hd1,k1,_,k2⟩:=hs1 i hi Y;have⟨X,k3,_,k4⟩:=hs1 j hj e2;have⟨_,rfl⟩:=k2 b h1;have⟨_,rfl⟩:=k4 b h2;exact hr.hp.inj i j hi hj b k1 k3 h1 h2;have⟨hd0,e0,_,Y⟩:=hs1 i hd e;have⟨_,rfl⟩:=Y b O;have:=hr.hp.lt i hd b e0 O;omega;rw[Kv st.h i ids st.h]at V |-;by_cases hi:i∈ids
   rw[if_pos hi]at V;cases V;rw[if_neg hi]at V |-;have⟨hd,Y,e2⟩:=hr.hp.obs i V;exact⟨hd,g6,e2.carry hcar1 g5 λb O=>hold b (hr.hp.lt i hd b Y O)⟩
  obtain⟨q1,q2,q3,q4⟩:=Rw hsub0 hp1 hle0;change Hp F1 (jP js (Hx x0) own_s) W (Hx x0)at q1;generalize hown0:jP js (Hx x0) own_s=own_0 at q1 q2 q3 q4;have h0s:∀ i hd b,own_0 i=some hd->b∈hd.bs->∃ j,j ∉ ids/\own j=some hd:=λi hd b e O=>by
   rw[<-hown0]at e;have⟨_,j,hd0,_,e2,_,e4⟩:=kx e;grind
  have hslot1:∀ t,Rel F1 own_0 W (lk t T) (a.tmps.getD t undef):=λt=>by
   rcases FD t _ hsub0.2.1 with e| ⟨Y,e2⟩;rw[e];exact .any _;have h1:=(hr.slots t).carry hcar1;grind
  let bs0:List Nat:=(w.heap.size+1)::abe own_0 (Hx x0).length
  have hbs0:∀ b,b∈bs0↔b=w.heap.size+1\/∃ i hd,own_0 i=some hd/\b∈hd.bs:=λb=>by
   rw[aoD,GX q1.dom]
  let Ff:Nat->Prop:=λb=>F b\/b=w.heap.size
  let own_f:Own:=λi=>match i with|0=>some ⟨none,yv,[],bs0⟩ |i+1=>(ids[i]?).bind own
  have hf1:∀ i hd,own_f (i+1)=some hd->∃ j,ids[i]? =some j/\own j=some hd:=λi hd e=>by
   grind
  have hffo:∀ b,dA Ff own_f b->(F b\/b=w.heap.size\/b=w.heap.size+1)\/∃ i hd,own i=some hd/\b∈hd.bs:=by
   rintro b ((hf|hf) | ⟨i,hd,e,O⟩) <;>grind
  let Fs:Nat->Prop:=λb=>F b\/b=w.heap.size\/b=w.heap.size+1
  have hcar0:asa F own w Fs own W:=⟨λ_ hd e=>⟨hd,e,.refl _⟩,λb hb hn=>⟨by
   rintro ((hf|hf|hf) |ho);exact hn (.inl hf);omega;omega;exact hn (.inr ho),hold b hb⟩⟩
  have hrn:Rn (RG ids) own own_f:=⟨λi j hd O e=>by
   unfold RG at O;rw[apz]at O;obtain⟨k,hk,rfl⟩:=O;refine⟨hd,?_,.refl _⟩;show(ids[k]?).bind own=some hd;rw[re ids i k hk];exact e⟩
  have hsh:∀ b,¬dA Fs own b->¬dA Ff own_f b:=λb hn ho=>hn (hffo b ho);let F':Nat->Prop:=λb=>dA Ff own_f b/\b ∉ bs0
  have hF'1:∀ b,Fw F' rc.l W b->F1 b:=by
   rintro b (⟨⟨ho,hn⟩,_⟩ |hb);rcases ho with(hf|hf) | ⟨i,hd,e,O⟩ <;>grind;grind
  have hcarP:asa F1 own_0 W (Fw F' rc.l W) own_0 W:=⟨λ_ hd e=>⟨hd,e,.refl _⟩,λb _ hn=>⟨λho=>hn (ho.imp (hF'1 b) (λe=>e)),rfl⟩⟩;have hpk:Pack rc T own st.h.length (Hx x0) (rc.obj .ready none) own_0 F' bs0 W:=by
   refine⟨⟨q1.dom,λb hb=>q1.arN b (hF'1 b hb),λi hd b e O hb=>q1.apart i hd b e O (hF'1 b hb),q1.inj,q1.lt,λi V=>?_⟩,λt=>(hslot1 t).carry hcarP,hbs0,λi hd e=>?_,λhf=>hf.2 ((hbs0 _).2 (.inl rfl)),hl1,hle0⟩;have⟨hd,Y,e2⟩:=q1.obs i V;exact⟨hd,Y,e2.carry hcarP (aom _) λ_ _=>rfl⟩;have⟨hd1,k1,l1⟩:=hs2 i hd e;have⟨X,k2,l2⟩:=q4 i hd1 (hr.hp.dom i hd e) k1;exact⟨X,k2,l1.trans l2⟩
  have hpf:Hp Ff own_f W (.ab (itR rc T own st.h.length Hx I S 1)::OF ids st.h):=by
   refine⟨λi hd e=>?_,λb hb=>?_,λi hd b e O hb=>?_,λi j hi hj b Y e2 h1 h2=>?_,λi hd b e O=>?_,λi V=>?_⟩;grind [OF]
   rcases hb with hf|hf;have:=hr.hp.arN b hf;omega;omega;have hnot:∀ i hd,own i=some hd->b∈hd.bs->False:=λi hd e O=>by
    rcases hb with hf|hf;exact hr.hp.apart i hd b e O hf;have:=hr.hp.lt i hd b e O;omega
   cases i with
   |zero=>
    cases e;rcases(hbs0 b).1 O with h| ⟨i,hd,e,O⟩;rcases hb with hf|hf;have:=hr.hp.arN b hf;omega;omega;grind
   |succ i=>grind
   have hmix:∀ i hd,own_f (i+1)=some hd->b∈hd.bs->b∈bs0->False:=λi hd e O h0=>by
    have⟨j,k1,k2⟩:=hf1 i hd e;rcases(hbs0 b).1 h0 with h| ⟨i2,X,e2,hm2⟩;have:=hr.hp.lt j hd b k2 O;omega;have⟨j2,k3,k4⟩:=h0s i2 X b e2 hm2;exact k3 (hr.hp.inj j2 j X hd b k4 k2 hm2 O▸aoB k1)
   cases i with
   |zero=>
    grind
   |succ i=>
    cases j with
    |zero=>grind
    |succ j=>
     have⟨k,k1,k2⟩:=hf1 i hi Y;have⟨k',k3,k4⟩:=hf1 j hj e2;have:=hr.hp.inj k k' hi hj b k2 k4 h1 h2;grind [tW]
   rcases hffo b (.inr ⟨i,hd,e,O⟩)with(h|h|h) | ⟨j,X,k,hm2⟩;have:=hr.hp.arN b h;omega;omega;omega;have:=hr.hp.lt j X b k hm2;omega;cases i with
   |zero=>exact⟨_,rfl,rfl,x0,own_0,hI0,hpk⟩
   |succ i=>
    have hob:ap (.ab (itR rc T own st.h.length Hx I S 1)::OF ids st.h) (i+1)=ap (OF ids st.h) i:=rfl;rw[hob]at V |-;rw[wY]at V |-;unfold OF at V |-;rw[apj]at V |-;cases hi:ids[i]? with
    |none=>grind [d_]
    |some j=>
     rw[hi]at V;simp[aql,Option.getD_some]at V |-;rw[w8]at V;have⟨hd,Y,e2⟩:=hr.hp.obs j V;refine⟨hd,g6,?_⟩;have e3:ash Fs own W hd (ap st.h j):=e2.carry hcar0 g5 λb O=>hold b (hr.hp.lt j hd b Y O);refine Gz hrn hsh (λb _ ho=>?_) e3;grind
  have hvs:ar7 Ff own_f W (.os 0::caps.map (ren (RG ids) 3)) (#[yv]++lb):=by
   refine⟨g6,λj s hj=>?_⟩;cases j with
   |zero=>
    simp at hj;subst hj;have:(#[yv]++lb).getD 0 undef=yv:=by simp[aoP];rw[aoL (by simp)];rfl
    rw[this];exact Rel.os (hd:=⟨none,yv,[],bs0⟩) rfl rfl
   |succ j=>
    obtain⟨s0,k1,rfl⟩:=rK hj;have:(#[yv]++lb).getD (j+1) undef=lb.getD j undef:=by
     simp[aoP];rw[apG (by simp)];simp
    rw[this];exact FA hrn hsh 3 s0 _ ((e4 j s0 k1).carry hcar0)
  refine CallsIn.mono (oC (hit.2 (itR rc T own st.h.length Hx I S) (λk=>(ac7 k).1) (aeZ O hts hG hr.size (λi hd e=>hr.hp.dom i hd e) hpn hpN hca hcb atz) Ff own_f W _ hpf hvs)) ?_;rintro e w3 ⟨u,ee,j,h',rfl,hj,hp3,fr3⟩;have⟨hd0,e0,hv0,hR⟩:=hp3.obs 0 rfl;have hl3:∀ {y E o},Pack rc T own st.h.length (Hx y) o E (λb=>dA Ff ee b/\b ∉ hd0.bs) hd0.bs w3->w3.heap[w.heap.size+1]? =some o:=λpk=>pk.rcd;have fin:∀ y E s p,Pack rc T own st.h.length (Hx y) (rc.obj s p) E (λb=>dA Ff ee b/\b ∉ hd0.bs) hd0.bs w3->
    arE Fs w0 N E ⟨T,Hx y⟩ { a with defers:=[{ target:=.collected w.heap.size,args:= #[]}]++a.defers} (w3.putObj (w.heap.size+1) (rc.obj .exhausted p)):=by
   intro y E s p pk;have hsz3:=fr3.size;have hsz3':W.heap.size<=w3.heap.size:=hsz3;have hoth:∀ c,c≠w.heap.size+1->(w3.putObj (w.heap.size+1) (rc.obj .exhausted p)).heap[c]? =w3.heap[c]?:=λc hc=>World.putObj_heap_other hc;have hownE:∀ i hd b,E i=some hd->b∈hd.bs->b∈hd0.bs/\b≠w.heap.size+1:=λi hd b e O=>⟨(pk.bs b).2 (.inr ⟨i,hd,e,O⟩),λe'=>pk.hp.apart i hd b e O (.inr e')⟩;have hnF:∀ b,b∈hd0.bs->¬Ff b:=λb hb hf=>hp3.apart 0 hd0 b e0 hb hf;have hFsFw:∀ b,Fs b->Fw (λb=>dA Ff ee b/\b ∉ hd0.bs) rc.l w3 b:=λb hb=>by
    rcases hb with hf|hf|hf;exact .inl ⟨⟨.inl (.inl hf),λO=>hnF b O (.inl hf)⟩,hp3.arN b (.inl hf)⟩;exact .inl ⟨⟨.inl (.inr hf),λO=>hnF b O (.inr hf)⟩,hp3.arN b (.inr hf)⟩;exact .inr hf
   have hcarE:asa (Fw (λb=>dA Ff ee b/\b ∉ hd0.bs) rc.l w3) E w3 Fs E (w3.putObj (w.heap.size+1) (rc.obj .exhausted p)):=⟨λ_ hd e=>⟨hd,e,.refl _⟩,λb _ hn=>⟨λho=>hn (ho.imp (hFsFw b) (λe=>e)),hoth b λe=>hn (.inl (.inr e))⟩⟩;have hkeep:∀ b,b<w.heap.size->(¬ ∃ i hd,own i=some hd/\b∈hd.bs)->w3.heap[b]? =w.heap[b]?:=λb hb hn=>by
    rw[fr3.block b ⟨by show b<W.heap.size;omega,λ⟨i,hd,e,O⟩ =>?_⟩];exact hold b hb;cases i with
    |zero=>
     cases e;rcases(hbs0 b).1 O with h| ⟨i,hd,e,O⟩;omega;have⟨j,_,k⟩:=h0s i hd b e O;exact hn ⟨j,hd,k,O⟩
    |succ i=>have⟨j,_,k⟩:=hf1 i hd e;exact hn ⟨j,hd,k,O⟩
   have hD3:w3.heap[w.heap.size]? =some (.deferred (some [])):=by
    rw[fr3.block w.heap.size ⟨by show w.heap.size<W.heap.size;omega,λ⟨i,hd,e,O⟩ =>hpf.apart i hd _ e O (.inr rfl)⟩];exact hD1
   refine⟨hr.size,?_,⟨pk.hp.dom,λb hb=>?_,λi hd b e O hb=>pk.hp.apart i hd b e O (hFsFw b hb),pk.hp.inj,λi hd b e O=>by have:=pk.hp.lt i hd b e O;simpa using this,λi V=>?_⟩,hr.fr.trans ⟨pk.ids,λi hd b e O ho=>?_,fr3.os.trans (by rw[<-hW1];rfl),fr3.tape.trans (by rw[<-hW1];rfl),fr3.output.trans (by rw[<-hW1];rfl),by simp;omega,λb hb=>?_⟩,λt=>(pk.slots t).carry hcarE⟩;have⟨ms,Ds,k0,k1,k2,k3⟩:=hr.defers;refine⟨{ target:=.collected w.heap.size,args:= #[]}::ms,w.heap.size::Ds,by simp[k0],by simp[k1],ao2.2 ⟨λO=>?_,k2⟩,λD hD=>?_⟩;have:=vj (k3 _ O).2.2;omega;rcases aoD.1 hD with rfl|hD;exact⟨hr.fr.size,.inr (.inl rfl),by rw[hoth _ g5];exact hD3⟩;have⟨m1,m2,m3⟩:=k3 D hD;have hlt:=vj m3;exact⟨m1,.inl m2,by rw[hoth _ g5,hkeep D hlt λ⟨i,hd,e,O⟩ =>hr.hp.apart i hd D e O m2];exact m3⟩;have:=pk.hp.arN b (hFsFw b hb);simpa using this;have⟨hd,Y,e2⟩:=pk.hp.obs i V;exact⟨hd,Y,e2.carry hcarE (by simp) λb O=>hoth b (hownE i hd b Y O).2⟩;have h1:=fr3.base 0 hd0 b e0 (hownE i hd b e O).1;refine h1 ⟨by show b<W.heap.size;have:=ho.1;change b<w.heap.size at this;omega,λ⟨i2,X,e2,hm2⟩ =>?_⟩;cases i2 with
   |zero=>
    cases e2;rcases(hbs0 b).1 hm2 with h| ⟨i3,hd3,e3,hm3⟩;exact(hownE i hd b e O).2 h;have⟨j,_,k⟩:=h0s i3 hd3 b e3 hm3;exact ho.2 ⟨j,hd3,k,hm3⟩
   |succ i2=>have⟨j,_,k⟩:=hf1 i2 X e2;exact ho.2 ⟨j,X,k,hm2⟩
   have hblt:b<w.heap.size:=hb.1;rw[hoth b g5];exact hkeep b hblt hb.2
  have fin2:∀ y E s p ex,Pack rc T own st.h.length (Hx y) (rc.obj s p) E (λb=>dA Ff ee b/\b ∉ hd0.bs) hd0.bs w3->abf lc st.h.length ex ⟨T,Hx y⟩->
    ∃ F3 at9 st3,(∀ b,F b->F3 b)/\arE F3 w0 N at9 st3 { a with defers:=[{ target:=.collected w.heap.size,args:= #[]}]++a.defers} (w3.putObj (w.heap.size+1) (rc.obj .exhausted p))/\∃ r,lc.post r/\ex=lc.ex r/\st3=lc.out r:=by
   rintro y E s p ex pk ⟨r,js2,m1,m2,m3,m4⟩;exact⟨Fs,_,_,λb hb=>.inl hb,(fin y E s p pk).sub m4 hr.asU m3,r,m1,m2.symm,rfl⟩
  rcases hj with rfl|rfl;have⟨ex,y,E,hS,hjm,pk⟩:=hR;refine⟨RE ex,_,run_endLoop (P:=P) (hl3 pk) (by simp[att.obj]),?_⟩;cases ex with
  |normal=>cases hjm|pan x=>cases hjm|ret=>exact wpIn_ret (fin2 y E _ _ .ret pk (hRet y hS))
  |exit jj=>
   refine wpIn_exit ?_;have h2:=fin2 y E _ _ _ pk (hEx jj y hS);show if jj=id then _ else _;by_cases hjj:jj=id
   rw[if_pos hjj]at h2 |-;exact h2;rw[if_neg hjj]at h2 |-;exact h2
  have⟨y,E,hIy,pk⟩:=hR;exact⟨none,_,run_endLoop (P:=P) (hl3 pk) (by simp[att.obj]),fin2 y E _ _ .normal pk (hN y hIy)⟩
end
def okI {ρ σ:Type}(step:Nat->σ->ρ⊕σ)(p:Nat->σ->Prop):Nat->Nat->σ->Prop
 |0,_,_=>True|n+1,i,s=>p i s/\∀ s',step i s=.inr s'->okI step p n (i+1) s'
theorem iA {ρ σ:Type}{step:Nat->σ->ρ⊕σ}{p:Nat->σ->Prop}:∀ (n i:Nat) (s:σ),(∀ j s,i<=j->j<i+n->p j s)->okI step p n i s
 |0,_,_,_=>trivial
 |n+1,i,s,h=>⟨h i s (aom _) g5,λs' _=>iA n (i+1) s' λj s h1 h2=>h j s g5 g5⟩
theorem ij {ρ σ:Type}{step:Nat->σ->ρ⊕σ}{p:Nat->σ->Prop}(J:Nat->σ->Prop):∀ (n i:Nat) (s:σ),J i s->(∀ j s,i<=j->j<i+n->J j s->p j s/\∀ s',step j s=.inr s'->J (j+1) s')->okI step p n i s
 |0,_,_,_,_=>trivial
 |n+1,i,s,h0,h=>⟨(h i s (aom _) g5 h0).1,λs' E=>ij J n (i+1) s' ((h i s (aom _) g5 h0).2 s' E) λj s h1 h2=>h j s g5 g5⟩
theorem il {ρ σ:Type}{step:Nat->σ->ρ⊕σ}(J:Nat->σ->Prop):∀ (n i:Nat) (s:σ),J i s->(∀ j s,i<=j->j<i+n->J j s->∀ s',step j s=.inr s'->J (j+1) s')->∀ r,aj step n i s=.inr r->J (i+n) r
 |0,i,s,h0,_,r,hr=>by grind [aj]
 |n+1,i,s,h0,h,r,hr=>by
  simp only[aj]at hr;cases E:step i s with
  |inl x=>grind
  |inr s'=>
   rw[E]at hr;have:=il J n (i+1) s' (h i s (aom _) g5 h0 s' E) (λj s h1 h2=>h j s g5 g5) r hr;grind
section
variable {P:Program}{ρ σ:Type}
def Ts (D:Nat->σ->St)(js:List Nat)(n0 k:Nat)(st:St):ρ⊕σ->Prop
 | .inl _=>False| .inr s'=>n0<=(D (k+1) s').h.length/\Sub js n0 st (D (k+1) s')
def exQ (exE:ρ->Ex)(arw:ρ->St)(js:List Nat)(n0:Nat)(e:Ex)(st:St):ρ⊕σ->Prop
 | .inl x=>exE x=e/\n0<=(arw x).h.length/\Sub js n0 st (arw x)| .inr _=>False
def cQ (step:Nat->σ->ρ⊕σ)(n:Nat)(exE:ρ->Ex)(arw:ρ->St)(arP:σ->St)(D:Nat->σ->St)(js:List Nat)(n0 id k:Nat)(s:σ):Ex->St->Prop
 | .normal,st=>k<n/\Ts D js n0 k st (step k s)| .exit j,st=>bif Nat.beq j id then(n<=k->n0<=(arP s).h.length/\Sub js n0 st (arP s))/\(k<n->exQ exE arw js n0 .normal st (step k s))else k<n/\exQ exE arw js n0 (.exit j) st (step k s)| .ret,st=>k<n/\exQ exE arw js n0 .ret st (step k s)| .pan x,st=>k<n/\exQ exE arw js n0 (.pan x) st (step k s)
variable {step:Nat->σ->ρ⊕σ}{n n0 id k j:Nat}{exE:ρ->Ex}{arw:ρ->St}{arP:σ->St}{D:Nat->σ->St}{js:List Nat}{s s':σ}{st:St}{x:Value}{e:Ex}{y:ρ}
@[go_sem] def ah0:= @Ts.eq_2
@[go_sem] def aml:= @exQ.eq_1
@[go_sem] def ah1:= @cQ.eq_1
@[go_sem] def amm:= @cQ.eq_2
@[go_sem] def am3:= @cQ.eq_3
@[go_sem] def am4:= @cQ.eq_4
variable {r r':ρ⊕σ}
@[congr] theorem ac8(h:r=r'):Ts D js n0 k st r=Ts D js n0 k st r':=by rw[h]
@[congr] theorem ah2(h:r=r'):exQ exE arw js n0 e st r=exQ exE arw js n0 e st r':=by rw[h]
@[congr] theorem ajQ {st st':St}{e e':Ex}(h:st=st')(he:e=e'):cQ step n exE arw arP D js n0 id k s e st=cQ step n exE arw arP D js n0 id k s e' st':=by rw[h,he]
theorem Kw {ts:Tis}{G:Cons}{ro:Option Nat}{N:Nat}(hm:P.follows .mixedOrders=true)(hts:ts.ok P)(hG:arD P G){id:Nat}{c:Code}(hc:dq N c=true){C:St->Option asq}
  (h:∀ st lc,C st=some lc->lc.pre->∃ (ρ σ:Type) (pre:Prop) (step:Nat->σ->ρ⊕σ) (p:Nat->σ->Prop) (n:Nat) (s0:σ) (exE:ρ->Ex) (arw:ρ->St) (arP:σ->St) (D:Nat->σ->St) (js:List Nat),
   lc=LC pre (aj step n 0 s0) exE arw arP/\okI step p n 0 s0/\st.h.length<=(D 0 s0).h.length/\Sub js st.h.length st (D 0 s0)/\
   ∀ k s,k<=n->(k<n->p k s)->∃ L,ak P ro N L c/\exec ts G L c (D k s) (cQ step n exE arw arP D js st.h.length id k s)):my P ro N id (.loop c) C:=by
 refine ur hm hts hG hc λst lc hC hp=>?_;obtain⟨ρ,σ,pre,step,p,n,s0,exE,arw,arP,D,js,rfl,h1,h2,h3,h4⟩:=h st lc hC hp;refine⟨Nat×σ,λx=>D x.1 x.2,λx=>x.1<=n/\okI step p (n - x.1) x.1 x.2/\aj step (n - x.1) x.1 x.2=aj step n 0 s0,λx=>n - x.1,(0,s0),js,⟨aoV _,g5,by simp⟩,h2,h3,?_⟩;rintro⟨k,s⟩ ⟨hk,hJ,E⟩;simp only at hk hJ E;obtain⟨L,hl,hex⟩:=h4 k s hk (λhlt=>by
  rw[show n - k=(n - k - 1)+1 by omega]at hJ;exact hJ.1)
 refine⟨L,_,hl,?_,hex⟩;have O:∀ e st',k<n->exQ exE arw js st.h.length e st' (step k s)->∃ r js,(LC pre (aj step n 0 s0) exE arw arP).post r/\(LC pre (aj step n 0 s0) exE arw arP).ex r=e/\st.h.length<=((LC pre (aj step n 0 s0) exE arw arP).out r).h.length/\Sub js st.h.length st' ((LC pre (aj step n 0 s0) exE arw arP).out r):=by
  intro e st' hlt q;cases V:step k s with
  |inr s'=>rw[V]at q;exact q.elim
  |inl x=>
   rw[V]at q;obtain⟨W,q3,q4⟩:=q;rw[show n - k=(n - k - 1)+1 by omega]at E;simp only[aj,V]at E;exact⟨.inl x,js,E,W,q3,q4⟩
 intro e st' Y;cases e with
 |normal=>
  obtain⟨q1,W⟩:=Y;cases V:step k s with
  |inl x=>rw[V]at W;exact W.elim
  |inr s'=>
   rw[V]at W;rw[show n - k=(n - (k+1))+1 by omega]at E hJ;simp only[aj,V]at E;exact⟨(k+1,s'),js,⟨q1,hJ.2 s' V,E⟩,g6,W.1,W.2⟩
 |exit j=>
  have X:(bif Nat.beq j id then(n<=k->st.h.length<=(arP s).h.length/\Sub js st.h.length st' (arP s))/\(k<n->exQ exE arw js st.h.length .normal st' (step k s))else k<n/\exQ exE arw js st.h.length (.exit j) st' (step k s)):=Y;show bif Nat.beq j id then _ else _;cases hb:Nat.beq j id with
  |true=>
   rw[hb]at X;simp only[cond_true]at X |-;by_cases hlt:k<n
   grind
   obtain⟨q3,q4⟩:=X.1 g5;have hkn:k=n:=g5
   subst hkn;simp only[aqg,aj]at E;exact⟨.inr s,js,E,rfl,q3,q4⟩
  |false=>grind
 |ret=>exact O _ _ Y.1 Y.2|pan x=>exact O _ _ Y.1 Y.2
end
def bp {ρ σ:Type}[Inhabited σ]:ρ⊕σ->σ| .inr s=>s| .inl _=>default
def eS {ρ σ:Type}[Inhabited ρ]:ρ⊕σ->ρ| .inl s=>s| .inr _=>default
def Xn {ρ σ:Type}[Inhabited σ]{s:σ}:bp (ρ:=ρ) (.inr s)=s:=(rfl)
def Xo {ρ σ:Type}[Inhabited ρ]{s:ρ}:eS (σ:=σ) (.inl s)=s:=(rfl)
attribute[go_sem]Xn Xo
theorem ajR {k n:Nat}(h:k<n)(hn:n<=aI):i64.wrap ((k:Int)+1)=((k+1:Nat):Int):=by
 grind [aI,aw]
theorem OH {k:Nat}{n:Int}(h:k<n.toNat)(hn:n<9223372036854775808):i64.wrap ((k:Int)+1)=((k+1:Nat):Int):=by
 grind [aw]
def yJ (pks:List Pk):SV->SV
 | .tup l=>.tup (Bp pks l)
 |s=>match pks with| [p] =>AF p s|_=>s
section
variable {F:Nat->Prop}{own:Own}{w:World}
theorem OI {pks:List Pk}{s:SV}{v:Value}(h:Rel F own w s v):Rel F own w (yJ pks s) v:=by
 unfold yJ;split
 cases h with
 |tup V h1=>
  refine .tup (by rw[GV];exact V) λj s W=>?_;obtain⟨s0,O,E| ⟨p,E⟩⟩:=GW _ _ _ _ W;subst E;exact h1 j _ O;subst E;exact GU (h1 j _ O)
 split
 exact GU h;exact h
@[go_sem] def ajS:= @yJ.eq_1
variable {p:Pk}
def ajT{l:List SV}:yJ [p] (.agg l)=AF p (.agg l):=(rfl)
def am5{x:Value}:yJ [p] (.v x)=AF p (.v x):=(rfl)
def amn{k:Tag}{l:List k.T}:yJ [p] (.rs k l)=AF p (.rs k l):=(rfl)
def amo{k a:Tag}{l:List (k.T×a.T)}:yJ [p] (.rm k a l)=AF p (.rm k a l):=(rfl)
def amp:yJ [p] .e0=AF p .e0:=(rfl)
attribute[go_sem]ajT am5 amn amo amp
end
section
variable {P:Program}{ts:Tis}{G:Cons}
theorem xa (pks:List Pk)(hm:P.follows .mixedOrders=true)(hts:ts.ok P)(hG:arD P G){f:FuncId}{fn:Func}{c:Code}(hf:P.funcs[f]? =some fn)(hb:fn.body=some c)(Y:(fn.name== "runtime.NumGoroutine")=false)
  (hc:dq fn.ntmps c=true) {C:m0}
  (h:∀ l O,C l=some O->an O->l.length<=fn.ntmps/\∃ L,ak P none fn.ntmps L c/\exec ts G L c ⟨pn 0 l,[]⟩ (Gf false fn.results.toList ts (λs=>eA O (yJ pks s)) (lK O))):X1 P f C:=by
 refine⟨λl O _ args w=>?_,λl O atS hpre F w vs hF hvs=>?_⟩;have hn:¬fn.name= "runtime.NumGoroutine":=by simpa using Y
 simp[callFunc,hf,hn,hb];obtain⟨hlen,L,hl,hx⟩:=h l O atS hpre;refine un (n:=0) (callsIn_of_wp_marks hf hb trivial ?_);have hr:arE F { w:=w,own:=dP} fn.ntmps dP ⟨pn 0 l,[]⟩ { tmps:=vs++Array.replicate (fn.ntmps - vs.size) undef,defers:=[]} w:=
  ⟨by have:=hvs.1;simp;omega,Dfr.nil,BS hF,Fr.refl _,λt=>so hvs _ t⟩
 refine wpIn_mono (tC hm hts hG c hc hl F _ _ hx dP _ w hr) ?_;intro e a' w' hq;have key:∀ X own st,(∀ b,F b->X b)->arE X { w:=w,own:=dP} fn.ntmps own st a' w'->jO (λs=>eA O (yJ pks s)) (Gc false fn.results.toList ts st)->LeavesInM (rd none) 0 P fn a'.tmps
   (λe w'=>(∃ s u ee,eA O s/\e=.returned u/\Handed F w ee w' s u/\Below w.heap.size w w')\/(∃ x,lK O x/\e=.panicked [{ v:=x,recovered:=false}]/\Below w.heap.size w w')) a'.defers .returning w':=by
  intro X own st hF1 hst E;refine oD hst (by simp) λw2 W=>?_;have V:=W.less hF1 rfl;simp only[Gc,cond_false,Gb]at E;cases hs:u6 (sS ts st fn.results.toList)with
  |none=>rw[hs]at E;exact E.elim
  |some s=>
   obtain⟨u,e1,e2⟩:=BR (P:=P) hts V hs;refine⟨u,e1,.inl ?_⟩;rw[hs]at E;exact⟨_,u,dP,E,rfl,yI V.hp.arN (OI (BO V.hp 4 s u e2)),sn V.fr⟩
 cases e with
 |normal=>obtain⟨X,own,st,h0,h1,h2⟩:=hq;exact key X own st h0 h1 h2
 |ret=>obtain⟨X,own,st,h0,h1,h2⟩:=hq;exact key X own st h0 h1 h2
 |exit id=>obtain⟨X,own,st,h0,h1,h2⟩:=hq;exact h2.elim
 |panic ch=>
  obtain⟨x,X,own,st,h0,h1,h2,rfl⟩:=hq;exact oD h1 (by simp) λw2 W=>.inr ⟨x,h2,rfl,sn W.fr⟩
 |_=>exact hq.elim
end
theorem AR {o:Ob}(E:S3 o=false):∀ (h:List Ob) (i:Nat),p8 h=false->p8 (cW h i o)=false
 | [],0,_=>by simp[cW,p8,E]
 | [],n+1,_=>by simp[cW,p8,S3,AR E [] n rfl]
 |a::r,0,h=>by grind [p8,cW]
 |a::r,n+1,h=>by simp only[p8,aoY]at h;simp[cW,p8,h.1,AR E r n h.2]
def ac9 (P:Program)(g:FuncId)(C:Value->Option SV):Prop:=
 (∀ (args:Array Value) (w:World),(callFunc g args).run P w=.ok (.enter g args) w)/\
 (∀ (p:Addr) (w:World),CallsDIn (rd none) 0 P g #[.pointer (some p)] .returning w (λe u' w'=>(∃ v,e=.returned v)/\u'=.returning/\w'=w))/\
 ∀ (x:Value) (s:SV),C x=some s->∀ (F:Nat->Prop) (own:Own) (w:World) (h:List Ob) (id:Nat) (hd:Hd) (b:Nat) (y:SV),p8 h=false->Hp F own w h->ap h id=.cells [y]->own id=some hd->hd.p=some b->
  CallsDIn (rd none) 0 P g #[.pointer (some ⟨b,0,none⟩)] (.panicking [{ v:=x,recovered:=false}]) w (λe u' w'=>(∃ v,e=.returned v)/\u'=.panicking [{ v:=x,recovered:=true}]/\∃ ee,Hp F ee w' (cW h id (.cells [s]))/\Fr { w:=w,own:=own} ee w')
section
variable {P:Program}{ts:Tis}{G:Cons}
theorem Mb {n:Nat}{g:FuncId}{i1 t3 q:Nat}{o1 o2:Oper}{tys:Array TypeId}{Q:Exit->Act->World->Prop}{a:Act}{w:World}{b:Nat}
  (ho1:o1.dst=some t3/\o1.op=.makeFunc (.func g) #[] #[.tmp q]/\o1.guard=none) (Y:o2.dst=none/\o2.op=.defer ⟨.value (.tmp t3),#[],tys⟩/\o2.guard=none)
  (hq:a.tmps.getD q undef=.pointer (some ⟨b,0,none⟩)) (ht3:t3<a.tmps.size)
  (h:Q .normal { tmps:=a.tmps.setIfInBounds t3 (.func (.func g) #[] #[.pointer (some ⟨b,0,none⟩)]),defers:= { target:=.fn (.func g) #[.pointer (some ⟨b,0,none⟩)],args:= #[]}::a.defers} w):
  (Code.region i1 #[o1,o2] false).wpIn (rd none) n P Q a w:=by
 obtain⟨d1,p1,E,s1,O,g1⟩:=o1;obtain⟨d2,p2,t2,V,X,g2⟩:=o2;obtain⟨rfl,rfl,rfl⟩:=ho1;obtain⟨rfl,rfl,rfl⟩:=Y;refine wpIn_region ?_;have W:(a.tmps.setIfInBounds t3 (.func (.func g) #[] #[.pointer (some ⟨b,0,none⟩)])).getD t3 undef=.func (.func g) #[] #[.pointer (some ⟨b,0,none⟩)]:=by
  simp_all
 have hr1:List.range (#[(⟨some t3,.makeFunc (.func g) #[] #[.tmp q],E,s1,O,none⟩:Oper),(⟨none,.defer ⟨.value (.tmp t3),#[],tys⟩,t2,V,X,none⟩:Oper)]:Array Oper).size=[0,1]:=rfl;rw[hr1];simp only[wpOpsIn,Oper.wpIn,Region.wanted];have e1:(#[(⟨some t3,.makeFunc (.func g) #[] #[.tmp q],E,s1,O,none⟩:Oper),(⟨none,.defer ⟨.value (.tmp t3),#[],tys⟩,t2,V,X,none⟩:Oper)]:Array Oper)[0]? =some ⟨some t3,.makeFunc (.func g) #[] #[.tmp q],E,s1,O,none⟩:=rfl;have e2:(#[(⟨some t3,.makeFunc (.func g) #[] #[.tmp q],E,s1,O,none⟩:Oper),(⟨none,.defer ⟨.value (.tmp t3),#[],tys⟩,t2,V,X,none⟩:Oper)]:Array Oper)[1]? =some ⟨none,.defer ⟨.value (.tmp t3),#[],tys⟩,t2,V,X,none⟩:=rfl;rw[e1,e2];simp only[if_true];refine⟨λ_ _=>trivial,?_⟩;have r1:((⟨some t3,.makeFunc (.func g) #[] #[.tmp q],E,s1,O,none⟩:Oper).semAt (rd none).round a.eval).run P w=.ok (.value (.func (.func g) #[] #[.pointer (some ⟨b,0,none⟩)])) w:=by
  simp[Oper.semAt,execOp,go_sem,Act.eval,hq];try rfl
 rw[r1];simp only[Oper.uponIn_value];refine⟨λ_ _=>trivial,?_⟩;have r2:((⟨none,.defer ⟨.value (.tmp t3),#[],tys⟩,t2,V,X,none⟩:Oper).semAt (rd none).round (a.put (some t3) (.func (.func g) #[] #[.pointer (some ⟨b,0,none⟩)])).eval).run P w=.ok (.defer { target:=.fn (.func g) #[.pointer (some ⟨b,0,none⟩)],args:= #[]}) w:=by
  simp[Oper.semAt,execOp,go_sem,Act.eval,Act.put,W];try rfl
 rw[r2];simp only[Oper.uponIn_defer];exact h
theorem RH {F:Nat->Prop}{w0:Bs}{ro:Option Nat}{nd N:Nat}(hm:P.follows .mixedOrders=true)(Y:ts.ok P)(hG:arD P G){id:Nat}{ops:Array Oper}(hc:dq N (.region id ops false)=true){st:St}{Q:St->Prop}{L:xP}(hx:exec ts G L (.region id ops false) st (λe st=>e=.normal/\Q st))
  {own:Own} {a:Act} {w:World} (hr:arE F w0 N own st a w):(Code.region id ops false).wpIn (rd ro) nd P (λe a w=>e=.normal/\∃ own st,arE F w0 N own st a w/\Q st) a w:=by
 have E:Ga (Ea ts G ops false st) (λe st=>e=.normal/\Q st) (L (id+2000000) st):=hx;have key:∀ Q:Ex->St->Prop,(∀ x st,¬Q (.pan x) st)->Ea ts G ops false st Q->(Code.region id ops false).wpIn (rd ro) nd P (λe a w=>e=.normal/\∃ own st,arE F w0 N own st a w/\Q .normal st) a w:=by
  intro Q V E;simp only[dq,aoj]at hc;obtain⟨h1,h2⟩:=hc;have W:=WP h1;obtain⟨l⟩:=ops;have E:kw ts G l l st (λst'=>Q .normal (Al l st')) (λx st'=>Q (.pan x) st'):=E;refine wpIn_region_list ?_;exact Rf (K:=λst'=>Q .normal (Al l st')) (Z:=λx st'=>Q (.pan x) st') Y hG W (λx own st a w h1 h2=>(V x _ h2).elim) l 0 own st a w rfl (hr.start l λk hk=>g5) E λown st a w hi hk=>⟨rfl,own,_,arE.finish hi,hk⟩
 cases O:L (id+2000000) st with
 |none=>
  rw[O]at E;refine wpIn_mono (key (λe st=>e=.normal/\Q st) (λx st h=>(by cases h.1)) E) λe a w ⟨h1,own,st,h2,X⟩ =>⟨h1,own,st,h2,X.2⟩
 |some lc=>
  rw[O]at E;refine wpIn_mono (key (aiH lc λe st=>e=.normal/\Q st) (λx st h=>(by have h:Ex.pan x=.normal/\Q st:=h;cases h.1)) E.1) λe a w ⟨h1,own,st,h2,r,X,h4,h5⟩ =>⟨h1,own,_,h2.atb h4 h5,(E.2 r X).2⟩
def Xp:Ob->Prop
 | .cells [_] =>True|_=>False
theorem Xq {o:Ob}(h:Xp o):∃ y,o=.cells [y]:=by
 unfold Xp at h;grind
def ae0 (rs:List ResultVar)(ts:Tis)(post:SV->Prop)(id:Nat)(st:St):Option SV->Prop
 |some s=>Xp (ap st.h id)/\p8 st.h=false/\jO post (Gb rs ts ⟨st.t,cW st.h id (.cells [s])⟩)|none=>False
def abh (C:Value->Option SV)(rs:List ResultVar)(ts:Tis)(post:SV->Prop)(id:Nat):Ex->St->Prop
 | .exit _,_=>False| .normal,st=>jO post (Gb rs ts st)| .ret,st=>jO post (Gb rs ts st)| .pan x,st=>ae0 rs ts post id st (C x)
@[go_sem] def ae1:= @Xp.eq_1
@[go_sem] def ah3:= @ae0.eq_1
section
variable {C:Value->Option SV}{rs:List ResultVar}{ts:Tis}{post:SV->Prop}{id:Nat}{st:St}{x:Value}
@[go_sem] def ac_:= @abh.eq_2
@[go_sem] def ajU:= @abh.eq_3
@[go_sem] def ajV:= @abh.eq_4
end
def U5:Code->Code| .seq a _=>a|c=>c
def RI:Code->Code| .seq _ b=>b|c=>c
def au0:Code->Nat| .region i _ _=>i|_=>0
def ajW (i:Nat):Code->Oper| .region _ ops _=>ops.getD i default|_=>default
theorem ae2 {g:FuncId}{RC:Value->Option SV}(at7:ac9 P g RC)(pks:List Pk)(hm:P.follows .mixedOrders=true)(hts:ts.ok P)(hG:arD P G){f:FuncId}{fn:Func}{c0 c1:Code}{i1 t3 q:Nat}{o1 o2:Oper}{tys:Array TypeId}
  (hf:P.funcs[f]? =some fn) (hb:fn.body=some (.seq c0 (.seq (.region i1 #[o1,o2] false) c1))) (hname:(fn.name== "runtime.NumGoroutine")=false)
  (ho1:o1.dst=some t3/\o1.op=.makeFunc (.func g) #[] #[.tmp q]/\o1.guard=none) (ho2:o2.dst=none/\o2.op=.defer ⟨.value (.tmp t3),#[],tys⟩/\o2.guard=none) (ht3:t3<fn.ntmps)
  (hc0:dq fn.ntmps c0=true) (hc1:dq fn.ntmps c1=true) {C:m0}
  (h:∀ l W,C l=some W->an W->l.length<=fn.ntmps/\∃ L L' id,ak P none fn.ntmps L c0/\ak P none fn.ntmps L' c1/\exec ts G L c0 ⟨pn 0 l,[]⟩ (λe st=>e=.normal/\lk q st.t=.ptr id 0/\Xp (ap st.h id)/\
   exec ts G L' c1 ⟨(t3,.any)::st.t,st.h⟩ (abh RC fn.results.toList ts (λs=>eA W (yJ pks s)) id))):X1 P f C:=by
 refine⟨λl W _ args w=>?_,λl W atS hpre F w vs hF hvs=>?_⟩;simp_all [callFunc]
 ·obtain⟨hlen,L,L',id,hl,hl',hx⟩:=h l W atS hpre;refine un (n:=0) (callsIn_of_wp_marks hf hb trivial ?_);have hr:arE F { w:=w,own:=dP} fn.ntmps dP ⟨pn 0 l,[]⟩ { tmps:=vs++Array.replicate (fn.ntmps - vs.size) undef,defers:=[]} w:=
   ⟨by have:=hvs.1;simp;omega,Dfr.nil,BS hF,Fr.refl _,λt=>so hvs _ t⟩
  refine wpIn_seq (wpIn_mono (tC hm hts hG c0 hc0 hl F _ _ hx dP _ w hr) ?_);intro e a1 w1 hq;cases e with
  |normal=>
   obtain⟨F1,own1,st1,hF1,X,_,hlk,_,hx1⟩:=hq;have hsq:=X.slots q;rw[hlk]at hsq;generalize hv:a1.tmps.getD q undef=pv at hsq;cases hsq with
   | @ptr _ _ b hd ho hp=>
   show(Code.seq (.region i1 #[o1,o2] false) c1).wpIn (rd none) 0 P _ a1 w1;have hsz:=X.size;refine wpIn_seq (Mb ho1 ho2 hv g5 ?_);show c1.wpIn (rd none) 0 P _ _ w1;obtain⟨ms,Ds,k0,k1,k2,k3⟩:=X.defers;have k0':a1.defers=ms:=g6
   let d:Deferred:= { target:=.fn (.func g) #[.pointer (some ⟨b,0,none⟩)],args:= #[]}
   let B:Bs:= { w:=w1,own:=own1,ds:=d::a1.defers}
   have hr2:arE F1 B fn.ntmps own1 ⟨(t3,.any)::st1.t,st1.h⟩ { tmps:=a1.tmps.setIfInBounds t3 (.func (.func g) #[] #[.pointer (some ⟨b,0,none⟩)]),defers:=d::a1.defers} w1:=by
    refine⟨g6,Dfr.nil,X.hp,Fr.refl B,λt=>?_⟩;rw[sW];by_cases ht:t3=t
    rw[if_pos ht];exact .any _;rw[if_neg ht];have:=X.slots t;simp_all
   have hbd:∀ D∈Ds,¬ ∃ id hd,own1 id=some hd/\D∈hd.bs:=λD hD ⟨i,hd,e,hm⟩ =>X.hp.apart i hd D e hm (k3 D hD).2.1;have fin:∀ F2 X2 O (a2:Act) w2,(∀ b,F1 b->F2 b)->arE F2 B fn.ntmps X2 O a2 w2->jO (λs=>eA W (yJ pks s)) (Gb fn.results.toList ts O)->
     LeavesInM (rd none) 0 P fn a2.tmps (λe w'=>(∃ s u ee,eA W s/\e=.returned u/\Handed F w ee w' s u/\Below w.heap.size w w')\/(∃ x,lK W x/\e=.panicked [{ v:=x,recovered:=false}]/\Below w.heap.size w w')) a1.defers .returning w2:=by
    intro F2 X2 O a2 w2 hF2 E V;have hB:arE F2 { w:=w,own:=dP} fn.ntmps X2 O { a2 with defers:=[]} w2:=⟨E.size,Dfr.nil,E.hp,X.fr.trans ⟨E.fr.ids,E.fr.base,E.fr.os,E.fr.tape,E.fr.output,E.fr.size,E.fr.block⟩,E.slots⟩;have hkeep:∀ D∈Ds,w2.heap[D]? =some (.deferred (some [])):=λD hD=>by
     rw[E.fr.block D ⟨vj (k3 D hD).2.2,hbd D hD⟩];grind
    rw[k0',<-aoC ms];refine C_ (by simp) Ds ms w2 k1 k2 hkeep λw4 hs=>?_;have hst4:=(hB.shut (Ds:=Ds) (λD hD=>⟨(k3 D hD).1,hF2 D (k3 D hD).2.1,hkeep D hD⟩) hs).less (λc hc=>hF2 c (hF1 c hc)) rfl;simp only[Gb]at V;cases hres:u6 (sS ts O fn.results.toList)with
    |none=>rw[hres]at V;exact V.elim
    |some s=>
     obtain⟨u,e1,e2⟩:=BR (P:=P) hts hst4 hres;rw[hres]at V;exact⟨u,e1,.inl ⟨_,u,dP,V,rfl,yI hst4.hp.arN (OI (BO hst4.hp 4 s u e2)),sn hst4.fr⟩⟩
   have hinv:∀ w2:World,(invoke (.fn (.func g) #[.pointer (some ⟨b,0,none⟩)]) #[]).run P w2=.ok (.enter g #[.pointer (some ⟨b,0,none⟩)]) w2:=λw2=>by simp[invoke,go_sem,at7.1]
   refine wpIn_mono (tC hm hts hG c1 hc1 hl' F1 _ _ hx1 own1 _ w1 hr2) ?_;have idle:∀ (a':Act) (w':World) F2 X2 O,(∀ b,F1 b->F2 b)->arE F2 B fn.ntmps X2 O a' w'->jO (λs=>eA W (yJ pks s)) (Gb fn.results.toList ts O)->
     LeavesInM (rd none) 0 P fn a'.tmps (λe w'=>(∃ s u ee,eA W s/\e=.returned u/\Handed F w ee w' s u/\Below w.heap.size w w')\/(∃ x,lK W x/\e=.panicked [{ v:=x,recovered:=false}]/\Below w.heap.size w w')) a'.defers .returning w':=by
    intro a' w' F2 X2 O hF2 E V;refine oD E (by simp) λw2 Y=>?_;refine⟨by simp,.inr ⟨λh=>(by cases h),.func g,#[.pointer (some ⟨b,0,none⟩)],g,#[.pointer (some ⟨b,0,none⟩)],rfl,hinv w2,λ_ _=>trivial,?_⟩⟩;refine(at7.2.1 ⟨b,0,none⟩ w2).mono ?_;rintro e u' w3 ⟨⟨v,rfl⟩,rfl,rfl⟩;exact fin F2 X2 O { a' with defers:=B.ds} _ hF2 Y V
   intro e a' w' hq;cases e with
   |normal=>obtain⟨F2,X2,O,h0,h1,h2⟩:=hq;exact idle a' w' F2 X2 O h0 h1 h2
   |ret=>obtain⟨F2,X2,O,h0,h1,h2⟩:=hq;exact idle a' w' F2 X2 O h0 h1 h2
   |exit jd=>obtain⟨F2,X2,O,h0,h1,h2⟩:=hq;exact h2.elim
   |panic ch=>
    obtain⟨x,F2,X2,O,h0,h1,hm,rfl⟩:=hq;change ae0 fn.results.toList ts _ id O (RC x)at hm;cases m1:RC x with
    |none=>rw[m1]at hm;exact hm.elim
    |some s=>
    rw[m1]at hm;obtain⟨hm2,m4,m3⟩:=hm;obtain⟨y,m2⟩:=Xq hm2;refine oD h1 (by simp) λw2 Y=>?_;refine⟨by simp,.inr ⟨λh=>(by cases h),.func g,#[.pointer (some ⟨b,0,none⟩)],g,#[.pointer (some ⟨b,0,none⟩)],rfl,hinv w2,λ_ _=>trivial,?_⟩⟩;obtain⟨hd2,e2,l2⟩:=Y.fr.ids id hd ho;refine(at7.2.2 x s m1 F2 X2 w2 O.h id hd2 b y m4 Y.hp m2 e2 (l2.1.trans hp)).mono ?_;rintro e u' w3 ⟨⟨v,rfl⟩,rfl,at9,q1,q2⟩;exact fin F2 at9 ⟨O.t,_⟩ { a' with defers:=B.ds} w3 h0 (Y.atH q1 q2) m3
   |_=>exact hq.elim
  |ret=>obtain⟨F1,own,st,h0,h1,h2,_⟩:=hq;cases h2
  |exit jd=>obtain⟨F1,own,st,h0,h1,h2,_⟩:=hq;cases h2
  |panic ch=>obtain⟨x,F1,own,st,h0,h1,⟨h2,_⟩,_⟩:=hq;cases h2
  |_=>exact hq.elim
end
end Go.Sx
end
section
namespace Go.Sx
open Go.Proofs Tryz
def kr {p:Prop}(h:p:=by kernel_rfl):p:=h
def tz:SV:=.i 0
def tn:SV:=.v (.slice none 0 0)
def tb:SV:=.v (.string (ByteArray.mk #[]))
def to:Nat×Bool:=(1,false)
def tS (e:Nat):TI:=⟨1,24,false,[tn],[],e,0,true,false,none,none,false,[],none,none,0⟩
def tM (e:Nat)(a b:Tag):TI:=⟨1,8,false,[(.v (.map none))],[],e,0,false,false,none,none,false,[],some a,some b,0⟩
def tT (n s:Nat)(z:List SV)(f:List (Nat×(Nat×Bool)))(k:Tag)(l:List Nat):TI:=⟨n,s,true,z,f,0,0,false,false,some k,none,false,l,none,none,0⟩
def ti3:TI:=⟨1,8,false,[tz],[],0,0,false,false,(some .int),(some .i64),false,[],none,none,1⟩
def ti4:TI:=⟨1,1,false,[(.v (.bool false))],[],0,0,false,false,(some .bool),none,false,[],none,none,3⟩
def ti9:TI:=⟨1,16,false,[tb],[],0,0,false,false,(some .str),none,false,[],none,none,2⟩
def ae3:TI:=tT 2 16 [tz,tz] [(0,to),(1,to)] .arJ [1,1]
def ae4:TI:=tS 67
def ae5:TI:=tS 129
def ae6:TI:=tS 199
def ae7:TI:=tS 131
def ae8:TI:=tS 203
def ae9:TI:=tS 421
def ae_:TI:=tT 10 184 [tb,tz,tz,tz,tn,tn,tn,tn,tn,tn] [(0,to),(1,to),(2,(2,true)),(4,to),(5,to),(6,to),(7,to),(8,to),(9,to)] .al []
def afa:TI:=tS 217
def yK:TI:=⟨1,8,false,[(.v .nilFunc)],[],0,0,false,false,none,none,false,[],none,none,0⟩
def afb:TI:=⟨1,24,false,[tn],[],3,0,true,false,(some .ints),none,false,[],none,none,0⟩
def afc:TI:=tS 75
def afd:TI:=tT 5 72 [tn,tz,tz,tz,tn] [(0,to),(1,to),(2,to),(3,to),(4,to)] .refusal []
def afe:TI:=tS 58
def aff:TI:=tS 259
def afg:TI:=tT 5 40 [tz,tz,tz,tz,tz] [(0,to),(1,to),(2,to),(3,to),(4,to)] .W2 [1,1,1,1,1]
def afh:TI:=tT 2 16 [tz,tz] [(0,to),(1,to)] .range [1,1]
def afi:TI:=tT 2 16 [tz,tz] [(0,to),(1,to)] .ratio [1,1]
def afj:TI:=⟨4,32,true,[tz,tz,tz,tz],[],64,2,false,true,(some .ast),none,false,[],none,none,0⟩
def afk:TI:=tT 12 104 [tb,tz,tz,tz,tz,tz,tz,tz,tz,tz,tz,tz] [(0,to),(1,to),(2,to),(3,to),(4,to),(5,to),(6,(2,true)),(8,(4,true))] .reach []
def afl:TI:=tT 4 32 [tz,tz,tz,tz] [(0,to),(1,to),(2,to),(3,to)] .arH [1,1,1,1]
def afm:TI:=tT 11 208 [tb,tz,tz,tz,tn,tn,tn,tn,tn,tn,tn] [(0,(10,true)),(10,to)] .S1 []
def afn:TI:=tT 5 40 [tz,tz,tz,tz,tz] [(0,to),(1,to),(2,to),(3,to),(4,to)] .fault [1,1,1,1,1]
def OJ:TI:=tM 3 .arQ .int
def Xr:TI:=⟨2,16,true,[tz,(.v .nilFunc)],[(0,to),(1,to)],0,0,false,false,none,none,false,[],none,none,0⟩
def OK:TI:=⟨2,16,true,[tz,tz],[],3,2,false,true,(some .arQ),none,false,[1,1],none,none,0⟩
def Xs:TI:=tS 107
def Xt:TI:=tS 119
def Xu:TI:=tT 6 48 [tz,tz,tz,tz,tz,tz] [(0,(5,true)),(5,to)] .arx [1,1,1,1,1,1]
def Xv:TI:=tS 90
def Xw:TI:=tT 4 40 [tb,tz,tz,tz] [(0,to),(1,to),(2,to),(3,to)] .dd [2,1,1,1]
def Xx:TI:=tT 10 88 [tb,tz,tz,tz,tz,tz,tz,tz,tz,tz] [(0,to),(1,to),(2,to),(3,to),(4,to),(5,to),(6,to),(7,to),(8,to),(9,to)] .right [2,1,1,1,1,1,1,1,1,1]
def Xy:TI:=tM 4 .arQ .bool
def Xz:TI:=tS 35
def XA:TI:=tM 3 .int .int
def XB:TI:=tM 4 .art .bool
def XC:TI:=tT 3 24 [(.v (.map none)),(.v (.map none)),(.v (.map none))] [(0,to),(1,to),(2,to)] .ar0 []
def XD:TI:=tT 2 16 [tz,tz] [(0,to),(1,to)] .art [1,1]
def OL:TI:=⟨1,8,false,[(.v .nilFunc)],[],0,0,false,false,(some .fnc),none,false,[],none,none,0⟩
def XE:TI:=tT 2 24 [tb,tz] [(0,to),(1,to)] .asn [2,1]
def XF:TI:=tT 4 40 [tb,tz,tz,tz] [(0,to),(1,to),(2,to),(3,to)] .asy [2,1,1,1]
def XG:TI:=tM 3 .W1 .int
def XH:TI:=tT 14 264 [tb,tz,tz,tz,tn,tn,tn,tn,tn,tn,tn,(.v (.map none)),tn,tn] [(0,(10,true)),(10,to),(11,to),(12,to),(13,to)] .A1 []
def XI:TI:=tS 192
def XJ:TI:=tS 341
def XK:TI:=tT 9 88 [tz,tz,tz,tz,tz,tn,tz,tz,tz] [(0,to),(1,to),(2,to),(3,to),(4,to),(5,to),(6,to),(7,to),(8,to)] .M1 []
def XL:TI:=tS 222
def XM:TI:=tT 4 32 [tz,tz,tz,tz] [(0,to),(1,to),(2,to),(3,to)] .holding [1,1,1,1]
def XN:TI:=⟨1,8,false,[(.v (.int .u64 0))],[],0,0,false,false,none,(some .u64),false,[],none,none,1⟩
def XO:TI:=tM 217 .int .M1
def XP:TI:=tT 4 32 [tz,tz,tz,(.v (.bool false))] [(0,to),(1,to),(2,to),(3,to)] .order [1,1,1,3]
def XQ:TI:=tM 3 .bo .int
def XR:TI:=tM 4 .bo .bool
def XS:TI:=tT 2 16 [tz,tz] [(0,to),(1,to)] .bo [1,1]
def XT:TI:=tT 3 24 [tz,tz,(.v (.bool false))] [(0,to),(1,to),(2,to)] .W1 [1,1,3]
def XU:TI:=tM 3 .pq .int
def XV:TI:=tT 2 16 [tz,tz] [(0,to),(1,to)] .pq [1,1]
def XW:TI:=tT 3 24 [tz,tz,tz] [(0,to),(1,(2,true))] .part [1,1,1]
def XX:TI:=tM 4 .int .bool
def XY:TI:=tM 359 .int .fnc
def XZ:TI:=tS 335
def X0:TI:=⟨1,8,true,[(.v .nilFunc)],[(0,to)],0,0,false,false,none,none,false,[],none,none,0⟩
def tl:List (Nat×TI):=[(3,ti3),(4,ti4),(9,ti9),(23,ae3),(24,ae4),(25,ae5),(26,ae6),(27,ae7),(28,ae8),(29,ae9),(31,ae_),(32,afa),(33,yK),(35,afb),(36,afc),(38,afd),(39,ti3),(47,afe),(50,aff),(58,afg),(62,afh),(64,afi),(65,afj),(67,afk),(75,afl),(80,afm),(90,afn),(102,OJ),(106,yK),(107,Xr),(108,OK),(109,OK),(112,Xs),(115,Xt),(119,Xu),(125,Xv),(129,Xw),(131,Xx),(137,yK),(138,yK),(143,yK),(144,Xy),(155,Xz),(170,XA),(171,XB),(173,XC),(183,XD),(192,OL),(194,ti3),(199,XE),(203,XF),(205,XG),(207,XH),(210,yK),(213,XI),(215,XJ),(217,XK),(218,XL),(222,XM),(229,XN),(234,yK),(248,XO),(259,XP),(262,OJ),(272,XQ),(273,XR),(275,XS),(277,XT),(316,XU),(323,XV),(335,OL),(341,XW),(354,XX),(357,XY),(373,XZ),(384,yK),(386,X0)]
def ts:Tis:=λt=>tl.lookup t
def ada {P:Program}:∀ {l:List (Nat×TI)},l.map (λx=>ku P x.1)=l.map (λx=>some x.2)->Tis.ok (λt=>l.lookup t) P
 | [],_,t,i,h=>by cases h
 |(a,b)::l,e,t,i,h=>by
  simp only[aoO,apS]at e;simp only[List.lookup_cons]at h;split at h
  rename_i q;cases h;rw[beq_iff_eq.1 q];exact e.1;exact ada e.2 t i h
def aB:Tis.ok ts prog:=ada kr
def avb:ts 3=some ti3:=(rfl)
def auU:ts 4=some ti4:=(rfl)
def auZ:ts 9=some ti9:=(rfl)
def aun:ts 23=some ae3:=(rfl)
def auh:ts 24=some ae4:=(rfl)
def auF:ts 25=some ae5:=(rfl)
def auc:ts 26=some ae6:=(rfl)
def auo:ts 27=some ae7:=(rfl)
def auj:ts 28=some ae8:=(rfl)
def aud:ts 29=some ae9:=(rfl)
def auE:ts 31=some ae_:=(rfl)
def auC:ts 32=some afa:=(rfl)
def auG:ts 33=some yK:=(rfl)
def auB:ts 35=some afb:=(rfl)
def aum:ts 36=some afc:=(rfl)
def aup:ts 38=some afd:=(rfl)
def auD:ts 39=some ti3:=(rfl)
def aui:ts 47=some afe:=(rfl)
def auz:ts 50=some aff:=(rfl)
def auL:ts 58=some afg:=(rfl)
def auA:ts 62=some afh:=(rfl)
def auf:ts 64=some afi:=(rfl)
def auq:ts 65=some afj:=(rfl)
def auv:ts 67=some afk:=(rfl)
def aus:ts 75=some afl:=(rfl)
def auw:ts 80=some afm:=(rfl)
def auy:ts 90=some afn:=(rfl)
def am6:ts 102=some OJ:=(rfl)
def am7:ts 106=some yK:=(rfl)
def am8:ts 107=some Xr:=(rfl)
def am9:ts 108=some OK:=(rfl)
def am_:ts 109=some OK:=(rfl)
def ana:ts 112=some Xs:=(rfl)
def anb:ts 115=some Xt:=(rfl)
def anc:ts 119=some Xu:=(rfl)
def ane:ts 125=some Xv:=(rfl)
def anf:ts 129=some Xw:=(rfl)
def ang:ts 131=some Xx:=(rfl)
def anh:ts 137=some yK:=(rfl)
def ani:ts 138=some yK:=(rfl)
def anj:ts 143=some yK:=(rfl)
def ank:ts 144=some Xy:=(rfl)
def anl:ts 155=some Xz:=(rfl)
def anm:ts 170=some XA:=(rfl)
def ann:ts 171=some XB:=(rfl)
def ano:ts 173=some XC:=(rfl)
def anp:ts 183=some XD:=(rfl)
def anq:ts 192=some OL:=(rfl)
def anr:ts 194=some ti3:=(rfl)
def ans:ts 199=some XE:=(rfl)
def ant:ts 203=some XF:=(rfl)
def anu:ts 205=some XG:=(rfl)
def anv:ts 207=some XH:=(rfl)
def anw:ts 210=some yK:=(rfl)
def anx:ts 213=some XI:=(rfl)
def anz:ts 215=some XJ:=(rfl)
def anA:ts 217=some XK:=(rfl)
def anB:ts 218=some XL:=(rfl)
def anC:ts 222=some XM:=(rfl)
def anD:ts 229=some XN:=(rfl)
def anE:ts 234=some yK:=(rfl)
def anF:ts 248=some XO:=(rfl)
def anG:ts 259=some XP:=(rfl)
def anH:ts 262=some OJ:=(rfl)
def anI:ts 272=some XQ:=(rfl)
def anJ:ts 273=some XR:=(rfl)
def anK:ts 275=some XS:=(rfl)
def anL:ts 277=some XT:=(rfl)
def anM:ts 316=some XU:=(rfl)
def anN:ts 323=some XV:=(rfl)
def anO:ts 335=some OL:=(rfl)
def anP:ts 341=some XW:=(rfl)
def anQ:ts 354=some XX:=(rfl)
def anR:ts 357=some XY:=(rfl)
def anS:ts 373=some XZ:=(rfl)
def anT:ts 384=some yK:=(rfl)
def anU:ts 386=some X0:=(rfl)
attribute[go_sem]avb auU auZ aun auh auF auc auo auj aud auE auC auG auB aum aup auD aui auz auL auA auf auq auv aus auw auy am6 am7 am8 am9 am_ ana anb anc ane anf ang anh ani anj ank anl anm ann ano anp anq anr ans ant anu anv anw anx anz anA anB anC anD anE anF anG anH anI anJ anK anL anM anN anO anP anQ anR anS anT anU
attribute [go_sem] tz tn tb to tS tM tT ti3 ti4 ti9 ae3 ae4 ae5 ae6 ae7 ae8 ae9 ae_ afa yK afb afc afd afe aff afg afh afi afj afk afl afm afn OJ Xr OK Xs Xt Xu Xv Xw Xx Xy Xz XA XB XC XD OL XE XF XG XH XI XJ XK XL XM XN XO XP XQ XR XS XT XU XV XW XX XY XZ X0
def mixed:prog.follows .mixedOrders=true:=by kernel_rfl
def lY:List SV->Option Con
 | [.v (.iface t (.int .i64 e))] =>bif Nat.beq t 194 then some (.det True (.i e))else none|_=>none
def Db:X1 prog 60 lY:=by
 have hG:arD prog (mkG [] []):=na (by simp) (by simp);refine xa [.o] mixed aB hG (fn:=f60) (c:=ae f60) kr kr kr kr λl V h W=>?_;unfold lY at h;split at h
 rename_i t e;cases E:Nat.beq t 194 with
 |false=>rw[E]at h;cases h
 |true=>
  rw[E]at h;cases h;have O:=aok E;subst O;refine⟨nbl rfl,L0,by unfold ae f60;simp only[ak,and_self],?_⟩;unfold ae f60;simp only[go_sem,true_imp_iff,false_imp_iff,Nat.reduceBEq,Nat.reduceLeDiff,Nat.reduceAdd,Nat.reduceSub,Nat.reduceMul,true_and,and_true,implies_true,reduceCtorEq]
 cases h
def afo:Value->Option SV
 | .iface t (.int .i64 e) =>bif Nat.beq t 194 then some (.i e)else none|_=>none
def X3:ac9 prog 59 afo:=by
 obtain⟨fn,W,E,hn,Y⟩:∃ fn,prog.funcs[59]? =some fn/\fn.body=some (ae f59)/\fn.ntmps=7/\fn.results= #[]:=⟨f59,by kernel_rfl,by kernel_rfl,by kernel_rfl,by kernel_rfl⟩;have hG:arD prog (mkG [(60,lY)] []):=na (by
  intro x V;simp only[aoD,apn,or_false]at V;rcases V with rfl;exact Db) (by simp)
 refine⟨λargs w=>by kernel_rfl,λp w=>?_,?_⟩;refine callsDIn_of_wpSIn W E trivial λc₀ cs hu=>?_;unfold ae f59;refine wpSIn_seq (wpSIn_region ?_);simp[wpOpsSIn,go_sem,recoverD,hu,hn,Exit.thenS,Oper.about,Region.wanted];refine wpSIn_seq (wpSIn_region ?_);simp[wpOpsSIn,go_sem,recoverD,hu,Exit.thenS,Oper.about,Region.wanted];refine wpSIn_cond (t:=false) (by simp[Act.eval]) ?_;simp only[aot,if_false];refine wpSIn_of_wpIn rfl (wpIn_skip ?_);cases c₀;simp_all [bodyPostS,results];intro x s V F own w h id hd b y hfw hp hob ho hpb;unfold afo at V;split at V
 rename_i t e;cases ht:Nat.beq t 194 with
 |false=>rw[ht]at V;cases V
 |true=>
  rw[ht]at V;cases V;have ht':=aok ht;subst ht';refine callsDIn_of_wpSIn W E trivial λc₀ cs hu=>?_;unfold ae f59;refine wpSIn_seq (wpSIn_region ?_);simp[wpOpsSIn,go_sem,recoverD,hu,hn,Exit.thenS,Oper.about,Region.wanted];refine wpSIn_seq (wpSIn_region ?_);simp[wpOpsSIn,go_sem,recoverD,hu,Exit.thenS,Oper.about,Region.wanted];refine wpSIn_cond (t:=true) (by simp[Act.eval]) ?_;simp only[if_true];refine wpSIn_of_wpIn rfl ?_;have hr:arE F { w:=w,own:=own} 7 own ⟨[(0,.ptr id 0),(1,.v (.iface 194 (.int .i64 e)))],h⟩ { tmps:= #[.pointer (some ⟨b,0,none⟩),.iface 194 (.int .i64 e),.iface 194 (.int .i64 e),.iface 194 (.int .i64 e),.bool true,undef,undef],defers:=[]} w:=by
   refine⟨rfl,Dfr.nil,hp,Fr.refl { w:=w,own:=own},λt=>?_⟩;rw[sW];by_cases h0:0=t
   subst h0;rw[if_pos rfl];exact .ptr ho hpb;rw[if_neg h0,sW];by_cases h1:1=t
   subst h1;rw[if_pos rfl];exact .v _;rw[if_neg h1];exact .any _
  refine wpIn_mono (RH (ts:=ts) (L:=L0) (Q:=λst=>st.h=cW h id (.cells [.i e])) mixed aB hG kr ?_ hr) ?_;simp only[go_sem,hob,AR (h:=h) (i:=id) (o:=.cells [.i e]) rfl hfw,lY,Nat.reduceBEq,Nat.reduceLeDiff,Nat.reduceAdd,true_and,and_true,true_imp_iff];rintro ex a' w' ⟨rfl,X,st1,O,hh⟩;have hd0:a'.defers=[]:=by
   obtain⟨ms,Ds,q0,q1,q2,q3⟩:=O.defers;cases Ds with
   |nil=>rw[q0];simp at q1;simp[q1]
   |cons D r=>
    obtain⟨m1,m2,_⟩:=q3 D (by simp);have:=hp.arN D m2;simp only at m1;omega
  refine⟨hd0,.panicking [{ v:=.iface 194 (.int .i64 e),recovered:=true}],?_,_,by simp[results,Y];rfl,⟨_,rfl⟩,rfl,X,hh▸O.hp,O.fr⟩;cases c₀;simp_all
 cases V
attribute [go_sem] lY
end Go.Sx
end
