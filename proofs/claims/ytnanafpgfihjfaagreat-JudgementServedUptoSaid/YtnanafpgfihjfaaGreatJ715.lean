/- Part of the proof that the law JudgementServed returns true and leaves its arguments as they were, for all arguments of bulk at most 1048576 (the Upto form). -/
import Derived.Test.YtnanafpgfihjfaaGreatJ714
import Derived.Test.YtnanafpgfihjfaaGreatJ710
import Derived.Test.YtnanafpgfihjfaaGreatJ708
import Derived.Test.YtnanafpgfihjfaaGreatJ707
import Derived.Test.YtnanafpgfihjfaaGreatJ712
import Derived.Test.YtnanafpgfihjfaaGreatJ713
import Derived.Test.YtnanafpgfihjfaaGreatJ706
import Derived.Deep.Slices
import Derived.OpenShut
import Derived.ChangeSame
import Derived.WideKeyArgs
import Derived.Below
import Derived.Test.YtnanafpgfihjfaaGreatRows
set_option linter.all false
set_option maxHeartbeats 4000000
set_option maxRecDepth 100000
section
namespace Go.Sx
open Go.Proofs
open IntKind (i64)
@[go_sem] def jv (x:Fault):List SV:=[.agg (cellsOf .fault x)]
@[go_sem] def xp:List SV->Option Con:=(pD .district fun d=>(pR .order fun out=>(pE (.det True (.fn 188 [] [.ep [.rs .order out] 0,.ep (cellsOf .district d) 0])))))
theorem Co:FnOk Tryz.prog 139 xp:=by
 have hG:ConsOk Tryz.prog (mkG [] []):=av cg0 cg0;refine ax [.o] mixed am hG (fn:=Tryz.f139) (c:=aa Tryz.f139) kr kr kr kr (a7 fun d=>(bB fun out=>(aj (fun hp=>?_))));refine⟨nbl rfl,L0,ag _,?_⟩;unfold aa Tryz.f139;simp only[go_sem,zg,zh,Nat.reduceBEq,Nat.reduceLeDiff,Nat.reduceAdd,Nat.reduceSub,Nat.reduceMul]
@[go_sem] def ig (out:List Order)(d:District)(k_0:Nat)(s_0:List (TimetableSlot×Int)):Empty⊕(List (TimetableSlot×Int)):=letI q1:=out.getD k_0 default;letI q0:=({ index:=(d.farms.getD (Int.toNat (q1.index)) default).reach,hour:=q1.hour}:TimetableSlot);.inr (fN .timetableSlot .int s_0 q0 (i64.wrap ((aZ .timetableSlot .int s_0 q0)+q1.litres)))
def jV (out:List Order)(d:District)(k_0:Nat)(s_0:List (TimetableSlot×Int)):Prop:=(0<=(out.getD k_0 default).index/\(out.getD k_0 default).index< (d.farms.length:Int))
@[go_sem] def aN (d:District)(s_1:List Fault×List (TimetableSlot×Int)×List (TimetableSlot×Bool)×Int)(k_2:Nat)(s_2:List (TimetableSlot×Bool)×List Fault×List (TimetableSlot×Int)):Empty⊕(List (TimetableSlot×Bool)×List Fault×List (TimetableSlot×Int)):=letI q2:=d.reaches.getD (Int.toNat s_1.2.2.2) default;letI q7:=(k_2:Int);letI q0:=({ index:=q2.up,hour:=(i64.wrap (q7 - q2.delay))}:TimetableSlot);letI q4:=({ index:=s_1.2.2.2,hour:=q7}:TimetableSlot);letI q1:=aZ .timetableSlot .int s_2.2.2 q4;letI q3:=s_2.2.1++[({ kind:=7,hour:=q7,index:=s_1.2.2.2,litres:=q1,limit:=0}:Fault)];letI q5:=iK q2 q1;letI q6:=decide (q1<=1073741824);letI q8:=aZ .timetableSlot .int s_2.2.2 q0;letI q9:=aZ .timetableSlot .bool s_2.1 q0;letI qa:=decide (q7<q2.delay);(bif(aZ .timetableSlot .bool s_2.1 q4)then .inr ((fN .timetableSlot .bool s_2.1 q0 true),s_2.2.1,s_2.2.2)else(bif(q1==0)then .inr (s_2.1,s_2.2.1,s_2.2.2)else(bif q6 then(bif((!q5.2.1) ||qa)then .inr ((fN .timetableSlot .bool s_2.1 q0 (q9||(!q5.2.1))),q3,s_2.2.2)else .inr (s_2.1,s_2.2.1,(fN .timetableSlot .int s_2.2.2 q0 (i64.wrap (q8+(if q5.1<q2.siphon then q2.siphon else q5.1))))))else(bif((!q6) ||qa)then .inr ((fN .timetableSlot .bool s_2.1 q0 (q9||(!q6))),q3,s_2.2.2)else .inr (s_2.1,s_2.2.1,(fN .timetableSlot .int s_2.2.2 q0 (i64.wrap (q8+(if 0<q2.siphon then q2.siphon else 0)))))))))
def iz (d:District)(items_:List (List SV))(s_1:List Fault×List (TimetableSlot×Int)×List (TimetableSlot×Bool)×Int)(k_2:Nat)(s_2:List (TimetableSlot×Bool)×List Fault×List (TimetableSlot×Int)):Prop:=letI q1:=d.reaches.getD (Int.toNat s_1.2.2.2) default;letI q6:=(k_2:Int);letI q3:=({ index:=s_1.2.2.2,hour:=q6}:TimetableSlot);letI q0:=aZ .timetableSlot .int s_2.2.2 q3;letI q2:=items_[s_2.2.1.length]? =some (jv ({ kind:=7,hour:=q6,index:=s_1.2.2.2,litres:=q0,limit:=0}:Fault));letI q4:=decide (q0<=1073741824);letI q5:=decide (q6<q1.delay);((aZ .timetableSlot .bool s_2.1 q3)=false->((q0==0)=false->((q4=true->((pw q1 q0)/\(((!(iK q1 q0).2.1) ||q5)=true->q2)))/\(q4=false->(((!q4) ||q5)=true->q2)))))
@[go_sem] def cd (d:District)(k_1:Nat)(s_1:List Fault×List (TimetableSlot×Int)×List (TimetableSlot×Bool)×Int):(List Fault)⊕(List Fault×List (TimetableSlot×Int)×List (TimetableSlot×Bool)×Int):=(bif(decide (s_1.2.2.2>=0))then(match aq (aN d s_1) (Int.toNat d.hours) 0 (s_1.2.2.1,s_1.1,s_1.2.1)with| .inl x=>x.elim| .inr s_2=>.inr (s_2.2.1,s_2.2.2,s_2.1,(i64.wrap (s_1.2.2.2 - 1))))else .inl s_1.1)
def jW (d:District)(items_:List (List SV))(k_1:Nat)(s_1:List Fault×List (TimetableSlot×Int)×List (TimetableSlot×Bool)×Int):Prop:=((decide (s_1.2.2.2>=0))=true->((0<=s_1.2.2.2/\s_1.2.2.2< (d.reaches.length:Int))/\((d.hours<9223372036854775808)/\okI (aN d s_1) (iz d items_ s_1) (Int.toNat d.hours) 0 (s_1.2.2.1,s_1.1,s_1.2.1))))
def cB (out:List Order)(d:District):List Fault:=(match aq (ig out d) out.length 0 ([])with| .inl x=>x.elim| .inr s_0=>(match aq (cd d) (d.reaches.length+1) 0 (([]:List Fault),s_0,[],(i64.wrap ((d.reaches.length:Int) - 1)))with| .inl x_1_0=>x_1_0| .inr s_1=>default))
def jS (out:List Order)(d:District)(items_:List (List SV)):Prop:=letI q0:=i64.wrap ((d.reaches.length:Int) - 1);letI q1:=cd d;letI q2:=d.reaches.length+1;letI q3:=ig out d;(out.length<=aI->(okI q3 (jV out d) out.length 0 ([])/\(∀ s_0,aq q3 out.length 0 ([])=.inr s_0->(d.reaches.length<=aI->(okI q1 (jW d items_) q2 0 (([]:List Fault),s_0,[],q0)/\(∀ z_,aq q1 q2 0 (([]:List Fault),s_0,[],q0)≠ .inr z_)/\(∀ x_1_0,aq q1 q2 0 (([]:List Fault),s_0,[],q0)=.inl x_1_0->(items_.length=x_1_0.length)))))))
theorem Aa (out:List Order)(d:District)(items_:List (List SV))(hp:jS out d items_):FG Tryz.prog 188 (fun y=>[y,.ep [.rs .order out] 0,.ep (cellsOf .district d) 0]) [] items_:=by
 unfold jS at hp;refine JJ mixed am (fn:=Tryz.f188) (c:=aa Tryz.f188) kr kr kr kr rfl (n:=0) rfl (G:=fun r_=>BK [(189,sB)] [] (Hb items_ r_)) (fun r_ hy=>?_) (fun args w=>by kernel_rfl);have hG:ConsOk Tryz.prog (BK [(189,sB)] [] (Hb items_ r_)):=zK (cgc yY cg0) cg0 hy;refine⟨hG,nbl rfl,(fun id st=>bif Nat.beq id 0 then some (LCR (ρ:=Empty) (σ:=(List (TimetableSlot×Int))) 3 [] [0,1,2] (fun k_0 s_0=>⟨[(0,.os 0),(2,.ep (cellsOf .district d) 0),(4,.os 1),(5,.os 2),(18,.rs .order out),(19,.v (.int .i64 (out.length:Int))),(20,.v (.int .i64 (k_0:Int)))],[.ab (r_.1 (([]:List Fault).length+1)),.mp .timetableSlot .int s_0 none,.mp .timetableSlot .bool ([]) none]⟩) (ig out d) (jV out d) out.length ([]) (out.length<=aI) ((·.elim)) ((·.elim)) st)else bif Nat.beq id 2 then some (Xx (ρ:=(List Fault)) (σ:=(List Fault×List (TimetableSlot×Int)×List (TimetableSlot×Bool)×Int)) 3 [] [0,1,2] (fun k_1 s_1=>⟨[(0,.os 0),(2,.ep (cellsOf .district d) 0),(4,.os 1),(5,.os 2),(8,.v (.int .i64 s_1.2.2.2))],[.ab (r_.1 (s_1.1.length+1)),.mp .timetableSlot .int s_1.2.1 none,.mp .timetableSlot .bool s_1.2.2.1 none]⟩) (cd d) (jW d items_) (d.reaches.length+1) (([]:List Fault),(cy (aq (ig out d) out.length 0 ([]))),[],(i64.wrap ((d.reaches.length:Int) - 1))) (fun _=>.normal) (fun x_1_0=>⟨[],[.ab (r_.1 (x_1_0.length+1)),.dead,.dead]⟩) ⟨[],[.ab (r_.1 0),.dead,.dead]⟩ st)else none),?_,?_⟩;unfold aa Tryz.f188;simp only[ap,true_and,and_true];refine⟨?_,?_⟩;refine a8 mixed am hG kr (fun _=>rfl) (out.length:Int) rfl iB (fun hb0 k_0 s_0 hlt0 hq0 hw hc=>⟨L0,ag _,?_⟩) (fun hb0 s_0 hc=>?_);unfold jV at hq0;try simp only[hw,air]at hq0
 exact uO (jl [0,1,2]);exact uP (jl [0,1,2]);refine Ic mixed am hG kr (fun _=>rfl) fun k_1 s_1 hq1=>⟨(fun id st=>bif Nat.beq id 4 then some (LCY (ρ:=Empty) (σ:=(List (TimetableSlot×Bool)×List Fault×List (TimetableSlot×Int))) 4 [] [0,1,2,3] (fun k_2 s_2=>⟨[(0,.os 0),(2,.ep (cellsOf .district d) 0),(4,.os 1),(5,.os 2),(8,.v (.int .i64 s_1.2.2.2)),(9,.ptr 3 0),(56,.v (.int .i64 d.hours)),(57,.v (.int .i64 (k_2:Int)))],[.ab (r_.1 (s_2.2.1.length+1)),.mp .timetableSlot .int s_2.2.2 none,.mp .timetableSlot .bool s_2.1 none,.cells (cellsOf .reach (d.reaches.getD (Int.toNat s_1.2.2.2) (default:Reach)))]⟩) (aN d s_1) (iz d items_ s_1) (Int.toNat d.hours) (s_1.2.2.1,s_1.1,s_1.2.1) (d.hours<9223372036854775808) ((·.elim)) ((·.elim)) ⟨[],[.ab (r_.1 0),.dead,.dead,.dead]⟩ st)else none),?_,?_⟩;simp only[ap,true_and,and_true];refine B6 mixed am hG kr (fun _=>rfl) d.hours rfl id (fun hb2 k_2 s_2 hlt2 hq2 hw hc=>⟨L0,ag _,?_⟩) (fun hb2 s_2 hc=>?_);unfold iz at hq2;try simp only[hw,air]at hq2
 exact uO (jl [0,1,2,3]);exact uP (jl [0,1,2,3]);unfold jW at hq1;exact Q3 (jl [0,1,2]);unfold aa Tryz.f188;exact Q3 (jl [0])
@[go_sem] def vg:List SV->Option Con:=(pD .district fun d=>(pR .order fun l_=>(pE (.det True (.fn 190 [] [.ep [.rs .order l_] 0,.ep (cellsOf .district d) 0])))))
theorem Ab:FnOk Tryz.prog 140 vg:=by
 have hG:ConsOk Tryz.prog (mkG [] []):=av cg0 cg0;refine ax [.o] mixed am hG (fn:=Tryz.f140) (c:=aa Tryz.f140) kr kr kr kr (a7 fun d=>(bB fun l_=>(aj (fun hp=>?_))));refine⟨nbl rfl,L0,ag _,?_⟩;unfold aa Tryz.f140;simp only[go_sem,zg,zh,Nat.reduceBEq,Nat.reduceLeDiff,Nat.reduceAdd,Nat.reduceSub,Nat.reduceMul]
@[go_sem] def aX (l_:List Order)(k_0:Nat)(s_0:List (TimetableSlot×Int)×Int):Empty⊕(List (TimetableSlot×Int)×Int):=letI q1:=l_.getD k_0 default;letI q0:=fN .timetableSlot .int s_0.1 ({ index:=q1.index,hour:=q1.hour}:TimetableSlot) (q1.litres);(bif(!q1.outlet)then(bif(q1.index==0)then .inr (q0,(i64.wrap (s_0.2+q1.litres)))else .inr (q0,s_0.2))else .inr (s_0.1,s_0.2))
@[go_sem] def iA (d:District)(s_0:List (TimetableSlot×Int)×Int)(k_1:Nat)(k_2:Nat)(k_3:Nat)(s_3:Int):Empty⊕Int:=.inr (i64.wrap (s_3+(aZ .timetableSlot .int s_0.1 ({ index:=(k_2:Int),hour:=(i64.wrap ((k_1:Int) - (k_3:Int)))}:TimetableSlot))))
@[go_sem] def fZ (d:District)(s_0:List (TimetableSlot×Int)×Int)(k_1:Nat)(k_2:Nat)(s_2:List Fault):Empty⊕(List Fault):=letI q1:=d.reaches.getD k_2 default;letI q3:=(k_1:Int);letI q4:=(k_2:Int);letI q2:=aZ .timetableSlot .int s_0.1 ({ index:=q4,hour:=q3}:TimetableSlot);letI q0:=s_2++[({ kind:=1,hour:=q3,index:=q4,litres:=q2,limit:=q1.cap}:Fault)];(match aq (iA d s_0 k_1 k_2) (Int.toNat (q1.delay)) 0 0 with| .inl x=>x.elim| .inr s_3=>(bif(decide (q2 > q1.cap))then(bif(decide (s_3 > q1.bank))then .inr (q0++[({ kind:=3,hour:=q3,index:=q4,litres:=s_3,limit:=q1.bank}:Fault)])else .inr q0)else(bif(decide (s_3 > q1.bank))then .inr (s_2++[({ kind:=3,hour:=q3,index:=q4,litres:=s_3,limit:=q1.bank}:Fault)])else .inr s_2)))
def i5 (d:District)(items_:List (List SV))(s_0:List (TimetableSlot×Int)×Int)(k_1:Nat)(k_2:Nat)(s_2:List Fault):Prop:=letI q1:=d.reaches.getD k_2 default;letI q4:=(k_1:Int);letI q5:=(k_2:Int);letI q0:=aZ .timetableSlot .int s_0.1 ({ index:=q5,hour:=q4}:TimetableSlot);letI q2:=({ kind:=1,hour:=q4,index:=q5,litres:=q0,limit:=q1.cap}:Fault);letI q3:=decide (q0 > q1.cap);((q1.delay<9223372036854775808)/\(∀ s_3,aq (iA d s_0 k_1 k_2) (Int.toNat (q1.delay)) 0 0=.inr s_3->((q3=true->((items_[s_2.length]? =some (jv q2))/\(((decide (s_3 > q1.bank))=true->(items_[(s_2++[q2]).length]? =some (jv ({ kind:=3,hour:=q4,index:=q5,litres:=s_3,limit:=q1.bank}:Fault))))/\((decide (s_3 > q1.bank))=false->((decide (s_3 > q1.bank))=false)))))/\(q3=false->((q3=false)/\(((decide (s_3 > q1.bank))=true->(items_[s_2.length]? =some (jv ({ kind:=3,hour:=q4,index:=q5,litres:=s_3,limit:=q1.bank}:Fault))))/\((decide (s_3 > q1.bank))=false->((decide (s_3 > q1.bank))=false))))))))
@[go_sem] def fg (d:District)(s_0:List (TimetableSlot×Int)×Int)(k_1:Nat)(s_1:List Fault):Empty⊕(List Fault):=(match aq (fZ d s_0 k_1) d.reaches.length 0 s_1 with| .inl x=>x.elim| .inr s_2=>.inr s_2)
def i6 (d:District)(items_:List (List SV))(s_0:List (TimetableSlot×Int)×Int)(k_1:Nat)(s_1:List Fault):Prop:=(d.reaches.length<=aI->okI (fZ d s_0 k_1) (i5 d items_ s_0 k_1) d.reaches.length 0 s_1)
def eI (l_:List Order)(d:District):List Fault:=(match aq (aX l_) l_.length 0 ([],0)with| .inl x=>x.elim| .inr s_0=>(match aq (fg d s_0) (Int.toNat d.hours) 0 ([]:List Fault)with| .inl x=>x.elim| .inr s_1=>(bif(decide (s_0.2 > d.tank.start))then(s_1++[({ kind:=4,hour:=0,index:=0,litres:=s_0.2,limit:=d.tank.start}:Fault)])else s_1)))
def iV (l_:List Order)(d:District)(items_:List (List SV)):Prop:=letI q0:=Int.toNat d.hours;(l_.length<=aI->(∀ s_0,aq (aX l_) l_.length 0 ([],0)=.inr s_0->((d.hours<9223372036854775808)/\okI (fg d s_0) (i6 d items_ s_0) q0 0 ([]:List Fault)/\(∀ s_1,aq (fg d s_0) q0 0 ([]:List Fault)=.inr s_1->(((decide (s_0.2 > d.tank.start))=true->((items_[s_1.length]? =some (jv ({ kind:=4,hour:=0,index:=0,litres:=s_0.2,limit:=d.tank.start}:Fault)))/\(items_.length=(s_1++[({ kind:=4,hour:=0,index:=0,litres:=s_0.2,limit:=d.tank.start}:Fault)]).length)))/\((decide (s_0.2 > d.tank.start))=false->(items_.length=s_1.length)))))))
theorem yu (l_:List Order)(d:District)(items_:List (List SV))(hp:iV l_ d items_):FG Tryz.prog 190 (fun y=>[y,.ep [.rs .order l_] 0,.ep (cellsOf .district d) 0]) [] items_:=by
 unfold iV at hp;refine JJ mixed am (fn:=Tryz.f190) (c:=aa Tryz.f190) kr kr kr kr rfl (n:=0) rfl (G:=fun r_=>BK [] [] (Hb items_ r_)) (fun r_ hy=>?_) (fun args w=>by kernel_rfl);have hG:ConsOk Tryz.prog (BK [] [] (Hb items_ r_)):=zK cg0 cg0 hy;refine⟨hG,nbl rfl,(fun id st=>bif Nat.beq id 0 then some (LCR (ρ:=Empty) (σ:=(List (TimetableSlot×Int)×Int)) 2 [] [0,1] (fun k_0 s_0=>⟨[(0,.os 0),(2,.ep (cellsOf .district d) 0),(4,.os 1),(5,.v (.int .i64 s_0.2)),(15,.rs .order l_),(16,.v (.int .i64 (l_.length:Int))),(17,.v (.int .i64 (k_0:Int)))],[.ab (r_.1 (([]:List Fault).length+1)),.mp .timetableSlot .int s_0.1 none]⟩) (aX l_) pT l_.length ([],0) (l_.length<=aI) ((·.elim)) ((·.elim)) st)else bif Nat.beq id 2 then some (LCY (ρ:=Empty) (σ:=(List Fault)) 2 [] [0,1] (fun k_1 s_1=>⟨[(0,.os 0),(2,.ep (cellsOf .district d) 0),(4,.os 1),(5,.v (.int .i64 (cy (aq (aX l_) l_.length 0 ([],0))).2)),(41,.v (.int .i64 d.hours)),(42,.v (.int .i64 (k_1:Int)))],[.ab (r_.1 (s_1.length+1)),.mp .timetableSlot .int (cy (aq (aX l_) l_.length 0 ([],0))).1 none]⟩) (fg d (cy (aq (aX l_) l_.length 0 ([],0)))) (i6 d items_ (cy (aq (aX l_) l_.length 0 ([],0)))) (Int.toNat d.hours) ([]:List Fault) (d.hours<9223372036854775808) ((·.elim)) ((·.elim)) ⟨[],[.ab (r_.1 0),.dead]⟩ st)else none),?_,?_⟩;unfold aa Tryz.f190;simp only[ap,true_and,and_true];refine⟨?_,?_⟩;refine a8 mixed am hG kr (fun _=>rfl) (l_.length:Int) rfl iB (fun hb0 k_0 s_0 hlt0 _ hw hc=>⟨L0,ag _,?_⟩) (fun hb0 s_0 hc=>?_);exact uO (jl [0,1]);exact uP (jl [0,1]);refine B6 mixed am hG kr (fun _=>rfl) d.hours rfl id (fun hb1 k_1 s_1 hlt1 hq1 hw hc=>⟨(fun id st=>bif Nat.beq id 4 then some (LCY (ρ:=Empty) (σ:=(List Fault)) 2 [] [0,1] (fun k_2 s_2=>⟨[(0,.os 0),(2,.ep (cellsOf .district d) 0),(4,.os 1),(5,.v (.int .i64 (cy (aq (aX l_) l_.length 0 ([],0))).2)),(8,.v (.int .i64 (k_1:Int))),(41,.v (.int .i64 d.hours)),(42,.v (.int .i64 (k_1:Int))),(46,.rs .reach d.reaches),(47,.v (.int .i64 (d.reaches.length:Int))),(48,.v (.int .i64 (k_2:Int)))],[.ab (r_.1 (s_2.length+1)),.mp .timetableSlot .int (cy (aq (aX l_) l_.length 0 ([],0))).1 none]⟩) (fZ d (cy (aq (aX l_) l_.length 0 ([],0))) k_1) (i5 d items_ (cy (aq (aX l_) l_.length 0 ([],0))) k_1) d.reaches.length s_1 (d.reaches.length<=aI) ((·.elim)) ((·.elim)) ⟨[],[.ab (r_.1 0),.dead]⟩ st)else none),?_,?_⟩) (fun hb1 s_1 hc=>?_);simp only[ap,true_and,and_true];refine B6 mixed am hG kr (fun _=>rfl) (d.reaches.length:Int) rfl iB (fun hb2 k_2 s_2 hlt2 hq2 hw hc=>⟨(fun id st=>bif Nat.beq id 6 then some (LCR (ρ:=Empty) (σ:=Int) 3 [] [0,1,2] (fun k_3 s_3=>⟨[(0,.os 0),(2,.ep (cellsOf .district d) 0),(4,.os 1),(5,.v (.int .i64 (cy (aq (aX l_) l_.length 0 ([],0))).2)),(8,.v (.int .i64 (k_1:Int))),(9,.v (.int .i64 (k_2:Int))),(10,.ptr 2 0),(11,.v (.int .i64 s_3)),(41,.v (.int .i64 d.hours)),(42,.v (.int .i64 (k_1:Int))),(46,.rs .reach d.reaches),(47,.v (.int .i64 (d.reaches.length:Int))),(48,.v (.int .i64 (k_2:Int))),(54,.v (.int .i64 ((d.reaches.getD k_2 (default:Reach)).delay))),(55,.v (.int .i64 (k_3:Int)))],[.ab (r_.1 (s_2.length+1)),.mp .timetableSlot .int (cy (aq (aX l_) l_.length 0 ([],0))).1 none,.cells (cellsOf .reach (d.reaches.getD k_2 (default:Reach)))]⟩) (iA d (cy (aq (aX l_) l_.length 0 ([],0))) k_1 k_2) pT (Int.toNat ((d.reaches.getD k_2 (default:Reach)).delay)) 0 ((d.reaches.getD k_2 (default:Reach)).delay<9223372036854775808) ((·.elim)) ((·.elim)) st)else none),?_,?_⟩) (fun hb2 s_2 hc=>?_);simp only[ap,true_and,and_true];refine a8 mixed am hG kr (fun _=>rfl) ((d.reaches.getD k_2 (default:Reach)).delay) rfl id (fun hb3 k_3 s_3 hlt3 _ hw hc=>⟨L0,ag _,?_⟩) (fun hb3 s_3 hc=>?_);exact uO (jl [0,1,2]);exact uP (jl [0,1,2]);unfold i5 at hq2;try simp only[hw,air]at hq2
 exact uO (jl [0,1]);exact uP (jl [0,1]);unfold i6 at hq1;try simp only[hw,air]at hq1
 exact uO (jl [0,1]);exact uP (jl [0,1]);unfold aa Tryz.f190;exact Q3 (jl [0])
@[go_sem] def eJ (out:List Order)(d:District)(z_0:Fault)(s_0:Int×Int×Int×Int×Int):Empty⊕(Int×Int×Int×Int×Int):=(bif(((s_0.1==0)&&((s_0.2.1==0)&&((s_0.2.2.1==0)&&((s_0.2.2.2.1==0)&&(s_0.2.2.2.2==0))))) ||(decide ((fJ ([(bq z_0.hour s_0.2.1),(bq s_0.2.2.1 z_0.index)])) <0)))then .inr (z_0.kind,z_0.hour,z_0.index,z_0.litres,z_0.limit)else .inr (s_0.1,s_0.2.1,s_0.2.2.1,s_0.2.2.2.1,s_0.2.2.2.2))
def zz (out:List Order)(d:District)(z_0:Fault)(s_0:Int×Int×Int×Int×Int):Prop:=True
def j5 (out:List Order)(d:District):Fault:=(match dR (eJ out d) (cB out d) (0,0,0,0,0)with| .inl x=>x.elim| .inr s_0=>({ kind:=s_0.1,hour:=s_0.2.1,index:=s_0.2.2.1,litres:=s_0.2.2.2.1,limit:=s_0.2.2.2.2}:Fault))
def rA (out:List Order)(d:District):Prop:=(jS out d ((cB out d).map jv))
@[go_sem] noncomputable def v_:List SV->Option Con:=(pFn 188 (pXR .order fun out=>(pX .district fun d=>(pE ((pE (.det (rA out d) (.agg (cellsOf .fault (j5 out d))))))))))
theorem afC {l0:List Nat}(a0:JL l0){p:Prop}(h:JL l0->p:=by intro ja;simp only[go_sem,Nat.reduceBEq,Nat.reduceLeDiff,Nat.reduceLT,decide_true,Nat.reduceAdd,Nat.reduceSub,Nat.reduceMul,Int.reduceLE,Int.reduceLT,Int.reduceToNat,Int.reduceNeg,reduceCtorEq,eJ,psT,jv,aiF,aiC];all_goals exact ke ja):p:=h a0
theorem Bc:FnOk Tryz.prog 138 v_:=by
 have hG:ConsOk Tryz.prog (mkG [(97,fS),(187,fun l=>ru (bD [.sl .int] l))] []):=av (cgc iC (cgc (ve.norm [.sl .int]) cg0)) cg0;refine ax [.st .fault] mixed am hG (fn:=Tryz.f138) (c:=aa Tryz.f138) kr kr kr kr (bI (BM fun out=>(aP fun d=>(aj ((aj (fun hp=>?_)))))));dsimp only[aw]at hp;unfold rA at hp;refine⟨nbl rfl,(fun id st=>bif Nat.beq id 0 then some (LC (ρ:=Empty) (σ:=Int×Int×Int×Int×Int) (lk 2 st.t=.ptr 0 0/\lk 4 st.t=.fn 188 [] [.ep [.rs .order out] 0,.ep (cellsOf .district d) 0]/\st.h=[.cells [.v (.int .i64 0),.v (.int .i64 0),.v (.int .i64 0),.v (.int .i64 0),.v (.int .i64 0)]]/\jS out d ((cB out d).map jv)) (dR (eJ out d) (cB out d) (0,0,0,0,0)) (fun x=>x.elim) (fun x=>x.elim) (fun s_0=>⟨[(2,.ptr 0 0)],[.cells [.v (.int .i64 s_0.1),.v (.int .i64 s_0.2.1),.v (.int .i64 s_0.2.2.1),.v (.int .i64 s_0.2.2.2.1),.v (.int .i64 s_0.2.2.2.2)]]⟩))else none),?_,?_⟩
 ·unfold aa Tryz.f138;simp only[ap,true_and,and_true]
  ·refine ud mixed am hG (by decide) (by decide) kr kr fun st lc hC hp=>?_;simp only[go_sem,Nat.reduceBEq,aip]at hC;subst hC;obtain⟨t,h⟩:=st;dsimp only[LC]at hp;obtain⟨e0_0,e0_1,rfl,hb0⟩:=hp;refine⟨188,[.ep [.rs .order out] 0,.ep (cellsOf .district d) 0],Fault,_,_,(cB out d),jv,(eJ out d),(zz out d),_,(0,0,0,0,0),_,_,_,[(2,.ptr 0 0)],(fun s_0=>[.cells [.v (.int .i64 s_0.1),.v (.int .i64 s_0.2.1),.v (.int .i64 s_0.2.2.1),.v (.int .i64 s_0.2.2.2.1),.v (.int .i64 s_0.2.2.2.2)]]),(fun x=>x.elim),[0],?_,rfl,Eg _ _ fun _ _ _=>trivial,nbl rfl,?_,Aa out d _ hb0,fun z_0 s_0 hq0=>⟨rfl,L0,fun l=>?_,fun l=>?_,?_⟩,fun s_0=>?_,fun y=>?_⟩;simp only[go_sem,e0_0,e0_1]
   ·simp only[go_sem,Nat.reduceBEq,Nat.reduceLeDiff,Nat.reduceLT,decide_true,Nat.reduceAdd,Nat.reduceSub,Nat.reduceMul,Int.reduceLE,Int.reduceLT,Int.reduceToNat,Int.reduceNeg,reduceCtorEq,wU,mQ,ai5,ajN,aiC,aiQ,ajy,e0_0,e0_1];all_goals (first|done|decide|(repeat' (first|refine And.intro ?_ ?_|rfl|decide)))
   simp only[ap,and_self,true_and,and_true];simp only[ap,and_self,true_and,and_true]
   skip
   exact afC (jl [0]);exact nS (jl [0]);exact nS (jl [0])
 unfold aa Tryz.f138;try unfold j5
 exact zq1
@[go_sem] def mv (d:District)(c:List Claim)(z_0:Fault)(s_0:Unit):(Int×Int×Int×Int×Int)⊕Unit:=.inl (z_0.kind,z_0.hour,z_0.index,z_0.litres,z_0.limit)
def zA (d:District)(c:List Claim)(z_0:Fault)(s_0:Unit):Prop:=True
def dU (d:District)(c:List Claim):List Order×Fault×Int:=letI q1:=aY d c;letI q0:=bj d (q1.1);(bif(q1.2 !=0)then([],({ kind:=0,hour:=0,index:=0,litres:=0,limit:=0}:Fault),q1.2)else(bif(q0.2.2 !=0)then([],({ kind:=0,hour:=0,index:=0,litres:=0,limit:=0}:Fault),q0.2.2)else(bif(!q0.2.1)then([],(j5 (q1.1) d),0)else(match dR (mv d c) (eI (q0.1) d) ()with| .inl x_0_0=>([],({ kind:=x_0_0.1,hour:=x_0_0.2.1,index:=x_0_0.2.2.1,litres:=x_0_0.2.2.2.1,limit:=x_0_0.2.2.2.2}:Fault),0) | .inr s_0=>(q0.1,({ kind:=0,hour:=0,index:=0,litres:=0,limit:=0}:Fault),0)))))
def nE (d:District)(c:List Claim):Prop:=letI q1:=aY d c;letI q0:=bj d (q1.1);((nD d c)/\((q1.2 !=0)=false->((rz d (q1.1))/\((q0.2.2 !=0)=false->(((!q0.2.1)=true->(rA (q1.1) d))/\((!q0.2.1)=false->(iV (q0.1) d ((eI (q0.1) d).map jv))))))))
@[go_sem] def wa:List SV->Option Con:=(pD .district fun d=>(pR .claim fun c=>(pE (.det (nE d c) (.tup [.rs .order ((dU d c).1),.agg (cellsOf .fault ((dU d c).2.1)),.v (.int .i64 ((dU d c).2.2))])))))
theorem afD {l0:List Nat}(a0:JL l0){p:Prop}(h:JL l0->p:=by intro ja;simp only[go_sem,Nat.reduceBEq,Nat.reduceLeDiff,Nat.reduceLT,decide_true,Nat.reduceAdd,Nat.reduceSub,Nat.reduceMul,Int.reduceLE,Int.reduceLT,Int.reduceToNat,Int.reduceNeg,reduceCtorEq,mv,psT,jv,aiF,aiC];all_goals exact ke ja):p:=h a0
theorem Bd:FnOk Tryz.prog 86 wa:=by
 have hG:ConsOk Tryz.prog (mkG [(136,fun l=>v8 (bD [.st .district,.sl .claim] l)),(137,fun l=>zu (bD [.st .district,.sl .order] l)),(138,v_),(139,fun l=>xp (bD [.st .district,.sl .order] l)),(140,fun l=>vg (bD [.st .district,.sl .order] l))] []):=av (cgc (Bb.norm [.st .district,.sl .claim]) (cgc (D8.norm [.st .district,.sl .order]) (cgc Bc (cgc (Co.norm [.st .district,.sl .order]) (cgc (Ab.norm [.st .district,.sl .order]) cg0))))) cg0;refine ax [.sl .order,.st .fault,.o] mixed am hG (fn:=Tryz.f86) (c:=aa Tryz.f86) kr kr kr kr (a7 fun d=>(bB fun c=>(aj (fun hp=>?_))));dsimp only[aw]at hp;unfold nE at hp;refine⟨nbl rfl,(fun id st=>bif Nat.beq id 0 then some (LC (ρ:=Int×Int×Int×Int×Int) (σ:=Unit) (lk 4 st.t=.ptr 1 0/\lk 5 st.t=.ptr 2 0/\lk 6 st.t=.ptr 3 0/\lk 39 st.t=.fn 190 [] [.ep [.rs .order ((bj d ((aY d c).1)).1)] 0,.ep (cellsOf .district d) 0]/\st.h=[.cells (cellsOf .district d),.cells [.rs .order ((bj d ((aY d c).1)).1)],.cells [.v (.int .i64 0),.v (.int .i64 0),.v (.int .i64 0),.v (.int .i64 0),.v (.int .i64 0)],.cells [.v (.int .i64 ((bj d ((aY d c).1)).2.2))]]/\iV ((bj d ((aY d c).1)).1) d ((eI ((bj d ((aY d c).1)).1) d).map jv)) (dR (mv d c) (eI ((bj d ((aY d c).1)).1) d) ()) (fun _=>.ret) (fun x_0_0=>⟨[(4,.ptr 1 0),(5,.ptr 2 0),(6,.ptr 3 0)],[.dead,.cells [.v (.slice none 0 0)],.cells [.v (.int .i64 x_0_0.1),.v (.int .i64 x_0_0.2.1),.v (.int .i64 x_0_0.2.2.1),.v (.int .i64 x_0_0.2.2.2.1),.v (.int .i64 x_0_0.2.2.2.2)],.cells [.v (.int .i64 0)]]⟩) (fun s_0=>⟨[(4,.ptr 1 0),(5,.ptr 2 0),(6,.ptr 3 0)],[.dead,.cells [.rs .order ((bj d ((aY d c).1)).1)],.cells [.v (.int .i64 0),.v (.int .i64 0),.v (.int .i64 0),.v (.int .i64 0),.v (.int .i64 0)],.cells [.v (.int .i64 ((bj d ((aY d c).1)).2.2))]]⟩))else none),?_,?_⟩
 ·unfold aa Tryz.f86;simp only[ap,true_and,and_true]
  ·refine ud mixed am hG (by decide) (by decide) kr kr fun st lc hC hp=>?_;simp only[go_sem,Nat.reduceBEq,aip]at hC;subst hC;obtain⟨t,h⟩:=st;dsimp only[LC]at hp;obtain⟨e0_0,e0_1,e0_2,e0_3,rfl,hb0⟩:=hp;refine⟨190,[.ep [.rs .order ((bj d ((aY d c).1)).1)] 0,.ep (cellsOf .district d) 0],Fault,_,_,(eI ((bj d ((aY d c).1)).1) d),jv,(mv d c),(zA d c),_,(),_,_,_,[(4,.ptr 1 0),(5,.ptr 2 0),(6,.ptr 3 0)],(fun s_0=>[.dead,.cells [.rs .order ((bj d ((aY d c).1)).1)],.cells [.v (.int .i64 0),.v (.int .i64 0),.v (.int .i64 0),.v (.int .i64 0),.v (.int .i64 0)],.cells [.v (.int .i64 ((bj d ((aY d c).1)).2.2))]]),(fun x_0_0=>[.dead,.cells [.v (.slice none 0 0)],.cells [.v (.int .i64 x_0_0.1),.v (.int .i64 x_0_0.2.1),.v (.int .i64 x_0_0.2.2.1),.v (.int .i64 x_0_0.2.2.2.1),.v (.int .i64 x_0_0.2.2.2.2)],.cells [.v (.int .i64 0)]]),[0,1,2,3],?_,rfl,Eg _ _ fun _ _ _=>trivial,nbl rfl,?_,yu ((bj d ((aY d c).1)).1) d _ hb0,fun z_0 s_0 hq0=>⟨rfl,L0,fun l=>?_,fun l=>?_,?_⟩,fun s_0=>?_,fun y=>?_⟩;simp only[go_sem,e0_0,e0_1,e0_2,e0_3]
   ·simp only[go_sem,Nat.reduceBEq,Nat.reduceLeDiff,Nat.reduceLT,decide_true,Nat.reduceAdd,Nat.reduceSub,Nat.reduceMul,Int.reduceLE,Int.reduceLT,Int.reduceToNat,Int.reduceNeg,reduceCtorEq,wU,mQ,ai5,ajN,aiC,aiQ,ajy,e0_0,e0_1,e0_2,e0_3];all_goals (first|done|decide|(repeat' (first|refine And.intro ?_ ?_|rfl|decide)))
   simp only[ap,and_self,true_and,and_true];simp only[ap,and_self,true_and,and_true]
   skip
   exact afD (jl [0,1,2,3]);exact nS (jl [0,1,2,3]);exact nS (jl [0,1,2,3])
 unfold aa Tryz.f86;try unfold dU
 exact zq1
def bp (d:District)(c:List Claim):List Order×Bool×Int:=letI q0:=dU d c;(q0.1,((q0.2.2==0)&&(((q0.2.1).kind==0)&&(((q0.2.1).hour==0)&&(((q0.2.1).index==0)&&(((q0.2.1).litres==0)&&((q0.2.1).limit==0)))))),q0.2.2)
def lL (d:District)(c:List Claim):Prop:=(nE d c)
@[go_sem] def xq:List SV->Option Con:=(pD .district fun d=>(pR .claim fun c=>(pE (.det (lL d c) (.tup [.rs .order ((bp d c).1),.v (.bool ((bp d c).2.1)),.v (.int .i64 ((bp d c).2.2))])))))
theorem Cp:FnOk Tryz.prog 37 xq:=by
 have hG:ConsOk Tryz.prog (mkG [(86,fun l=>wa (bD [.st .district,.sl .claim] l))] []):=av (cgc (Bd.norm [.st .district,.sl .claim]) cg0) cg0;refine ax [.sl .order,.o,.o] mixed am hG (fn:=Tryz.f37) (c:=aa Tryz.f37) kr kr kr kr (a7 fun d=>(bB fun c=>(aj (fun hp=>?_))));dsimp only[aw]at hp;unfold lL at hp;refine⟨nbl rfl,L0,ag _,?_⟩;unfold aa Tryz.f37;try unfold bp
 exact zq1
abbrev UM:=List (TimetableSlot×Bool)
abbrev WM:=List (TimetableSlot×Int)
def sl (a b:Int):TimetableSlot:= { index:=a,hour:=b}
def ltF (k:Nat)(r n:Int):Fault:= { kind:=7,hour:=(k:Int),index:=r,litres:=n,limit:=0}
section
variable {d:District}{s1:List Fault×WM×UM×Int}{k:Nat}{u:UM}{F:List Fault}{w:WM}
theorem Rt (hu:aZ .timetableSlot .bool u (sl s1.2.2.2 k)=true):∃ u',aN d s1 k (u,F,w)=.inr (u',F,w):=by
 simp_all [aN,sl]
theorem IG (hu:aZ .timetableSlot .bool u (sl s1.2.2.2 k)=false)(hn:aZ .timetableSlot .int w (sl s1.2.2.2 k)=0):aN d s1 k (u,F,w)=.inr (u,F,w):=by
 simp_all [aN,sl]
theorem Ma (hu:aZ .timetableSlot .bool u (sl s1.2.2.2 k)=false)(hn:aZ .timetableSlot .int w (sl s1.2.2.2 k)≠0)
  (hb:(aQ (rch d s1.2.2.2) (aZ .timetableSlot .int w (sl s1.2.2.2 k))).2=false\/(k:Int) < (rch d s1.2.2.2).delay):
  ∃ u',aN d s1 k (u,F,w)=.inr (u',F++[ltF k s1.2.2.2 (aZ .timetableSlot .int w (sl s1.2.2.2 k))],w):=by
 unfold aN ltF;unfold sl at hu hn hb |-;simp only[hu,cond_false];generalize hq:aZ .timetableSlot .int w ({ index:=s1.2.2.2,hour:=(k:Int)}:TimetableSlot)=n at hn hb |-;have h0:(n==0)=false:=by grind
 rw[h0,cond_false];unfold aQ at hb;by_cases hm:n<=1073741824
 rw[decide_eq_true hm,cond_true];have h1:((n==0) ||decide (n > 1073741824))=false:=by grind
 rw[h1,cond_false]at hb;have h2:((!(iK (d.reaches.getD (Int.toNat s1.2.2.2) (default:Reach)) n).2.1) ||(decide ((k:Int) < (d.reaches.getD (Int.toNat s1.2.2.2) (default:Reach)).delay)))=true:=by
  grind
 rw[h2,cond_true];grind
 simp_all [decide_eq_false]
theorem IH (hu:aZ .timetableSlot .bool u (sl s1.2.2.2 k)=false)(hn:aZ .timetableSlot .int w (sl s1.2.2.2 k)≠0)
  (hb:(aQ (rch d s1.2.2.2) (aZ .timetableSlot .int w (sl s1.2.2.2 k))).2=true) (hk:¬ (k:Int) < (rch d s1.2.2.2).delay):
  aN d s1 k (u,F,w)=.inr (u,F,fN .timetableSlot .int w (sl (rch d s1.2.2.2).up (i64.wrap ((k:Int) - (rch d s1.2.2.2).delay))) (i64.wrap (aZ .timetableSlot .int w (sl (rch d s1.2.2.2).up (i64.wrap ((k:Int) - (rch d s1.2.2.2).delay)))+(aQ (rch d s1.2.2.2) (aZ .timetableSlot .int w (sl s1.2.2.2 k))).1))):=by
 unfold aN;unfold sl at hu hn hb |-;simp only[hu,cond_false];generalize hq:aZ .timetableSlot .int w ({ index:=s1.2.2.2,hour:=(k:Int)}:TimetableSlot)=n at hn hb |-;have h0:(n==0)=false:=by grind
 rw[h0,cond_false];unfold aQ at hb |-;grind
theorem U1:∃ u' T w',aN d s1 k (u,F,w)=.inr (u',F++T,w')/\∀ f∈T,f.kind=7:=by
 cases hu:aZ .timetableSlot .bool u (sl s1.2.2.2 k)with
 |true=>obtain⟨u',e⟩:=Rt (F:=F) (w:=w) hu;exact⟨u',[],w,by rw[e,aiQ],by simp⟩
 |false=>
  by_cases hn:aZ .timetableSlot .int w (sl s1.2.2.2 k)=0
  exact⟨u,[],w,by rw[IG hu hn,aiQ],by simp⟩;by_cases hb:(aQ (rch d s1.2.2.2) (aZ .timetableSlot .int w (sl s1.2.2.2 k))).2=false\/(k:Int) < (rch d s1.2.2.2).delay
  obtain⟨u',e⟩:=Ma (F:=F) hu hn hb;grind [ltF]
  have h1:(aQ (rch d s1.2.2.2) (aZ .timetableSlot .int w (sl s1.2.2.2 k))).2=true:=by
   grind
  exact⟨u,[],_,by rw[IH hu hn h1 (fun q=>hb (.inr q)),aiQ],by simp⟩
end
section
variable {d:District}{s1:List Fault×WM×UM×Int}{items:List (List SV)}
theorem Cq:∀ (n k:Nat) (u:UM) (F:List Fault) (w:WM),∃ u' T w',aq (aN d s1) n k (u,F,w)=.inr (u',F++T,w')/\∀ f∈T,f.kind=7
 |0,k,u,F,w=>⟨u,[],w,by rw[aiQ];rfl,by simp⟩
 |n+1,k,u,F,w=>by
  obtain⟨u1,T1,w1,e1,h1⟩:=U1 (d:=d) (s1:=s1) (k:=k) (u:=u) (F:=F) (w:=w);obtain⟨u2,T2,w2,e2,h2⟩:=Cq n (k+1) u1 (F++T1) w1;grind [aq]
theorem Er {F:List Fault}{f:Fault}(h:(F++[f]).map jv<+:items):items[F.length]? =some (jv f):=by
 obtain⟨t,rfl⟩:=h;simp
theorem XQ {k:Nat}{u:UM}{F:List Fault}{w:WM}(h:∀ f,(∃ u' w',aN d s1 k (u,F,w)=.inr (u',F++[f],w'))->items[F.length]? =some (jv f)):iz d items s1 k (u,F,w):=by
 intro hu hn;simp only at hu hn;refine⟨fun hm=>⟨PC _ _,fun hb=>h _ ?_⟩,fun hm hb=>h _ ?_⟩;unfold aN;simp only at hm hb;simp only[hu,hn,hm,hb,cond_false,cond_true];grind
 unfold aN;simp only at hm hb;simp only[hu,hn,hm,hb,cond_false,cond_true];simp_all
theorem U3:∀ (n k:Nat) (u:UM) (F:List Fault) (w:WM),(∀ u2 F2 w2,aq (aN d s1) n k (u,F,w)=.inr (u2,F2,w2)->F2.map jv<+:items)->okI (aN d s1) (iz d items s1) n k (u,F,w)
 |0,_,_,_,_,_=>trivial
 |n+1,k,u,F,w,h=>by
  refine⟨XQ fun f ⟨u',w',e⟩ =>?_,fun s' e=>?_⟩;obtain⟨u2,T2,w2,e2,_⟩:=Cq (d:=d) (s1:=s1) n (k+1) u' (F++[f]) w';have:=h u2 (F++[f]++T2) w2 (by grind [aq]);refine Er (aj6 ?_ this);grind
  obtain⟨u',F',w'⟩:=s';exact U3 n (k+1) u' F' w' fun u2 F2 w2 e2=>h u2 F2 w2 (by grind [aq])
end
section
variable {d:District}{items:List (List SV)}
theorem U4 {j:Nat}{F:List Fault}{w:WM}{u:UM}{i:Int}(h:i<0):cd d j (F,w,u,i)=.inl F:=by
 simp_all [cd,decide_eq_false]
theorem PT {j:Nat}{F F':List Fault}{w w':WM}{u u':UM}{i:Int}(h0:0<=i)(h1:i<=1000000)(e:aq (aN d (F,w,u,i)) (Int.toNat d.hours) 0 (u,F,w)=.inr (u',F',w')):
  cd d j (F,w,u,i)=.inr (F',w',u',i - 1):=by
 unfold cd;simp only;rw[decide_eq_true (by omega),cond_true,e];grind [cI]
theorem Es:∀ (m n j:Nat) (F:List Fault) (w:WM) (u:UM),m<n->m<=1000000->∃ T,aq (cd d) n j (F,w,u,(m:Int) - 1)=.inl (F++T)/\∀ f∈T,f.kind=7
 |0,n+1,j,F,w,u,_,_=>⟨[],by grind [aq,U4],by simp⟩
 |m+1,n+1,j,F,w,u,h,hm=>by
  obtain⟨u1,T1,w1,e1,h1⟩:=Cq (d:=d) (s1:=(F,w,u,((m+1:Nat):Int) - 1)) (Int.toNat d.hours) 0 u F w;obtain⟨T2,e2,h2⟩:=Es m n (j+1) (F++T1) w1 u1 (by omega) (by omega);refine⟨T1++T2,?_,fun f hf=>(aix.1 hf).elim (h1 f) (h2 f)⟩;simp only[aq];grind [PT]
theorem U5 (hh:d.hours<=4096):∀ (m n j:Nat) (F:List Fault) (w:WM) (u:UM),m<n->m<=1000000->m<=d.reaches.length->(∀ x,aq (cd d) n j (F,w,u,(m:Int) - 1)=.inl x->x.map jv<+:items)->
  okI (cd d) (jW d items) n j (F,w,u,(m:Int) - 1)
 |0,n+1,j,F,w,u,_,_,_,h=>by
  refine⟨fun q=>?_,fun s' e=>?_⟩;grind
  grind [U4]
 |m+1,n+1,j,F,w,u,hmn,hm,hR,h=>by
  obtain⟨u1,T1,w1,e1,h1⟩:=Cq (d:=d) (s1:=(F,w,u,((m+1:Nat):Int) - 1)) (Int.toNat d.hours) 0 u F w;have e3:=PT (j:=j) (d:=d) (by omega) (by omega) e1;rw[show((m+1:Nat):Int) - 1 - 1=(m:Int) - 1 by omega]at e3;refine⟨fun q=>⟨by grind,by omega,U3 _ _ _ _ _ fun u2 F2 w2 e2=>?_⟩,fun s' e=>?_⟩;simp only at e2;rw[e1]at e2;simp only[aiZ,akY]at e2;obtain⟨rfl,rfl,rfl⟩:=e2;obtain⟨T2,e4,_⟩:=Es (d:=d) m n (j+1) (F++T1) w1 u1 (by omega) (by omega);have:=h _ (by simp only[aq];rw[e3];exact e4);refine aj6 ?_ this;grind
  rw[e3]at e;simp only[aiZ]at e;subst e;exact U5 hh m n (j+1) (F++T1) w1 u1 (by omega) (by omega) (by omega) fun x hx=>h x (by grind [aq])
end
def Eqv (w:WM)(m:Mp):Prop:= ∀ a b,aZ .timetableSlot .int w (sl a b)=aZ .int2 .int m (a,b)
theorem U6 {a b x y:Int}:(sl x y=sl a b)=((x,y)=(a,b)):=by
 grind [sl]
theorem Eqv.put {w:WM}{m:Mp}(h:Eqv w m)(a b v:Int):Eqv (fN .timetableSlot .int w (sl a b) v) (fN .int2 .int m (a,b) v):=fun x y=>by
 rw[qo,qo,h];simp_all [U6]
theorem DK {ρ σ τ:Type}(step:τ->σ->ρ⊕σ):∀ (A B:List τ) (s:σ),dR step (A++B) s=match dR step A s with| .inl y=>.inl y| .inr s'=>dR step B s'
 | [],B,s=>rfl
 |x::A,B,s=>by
  simp only[aiF,dR];cases h:step x s with
  |inl y=>rfl|inr s'=>exact DK step A B s'
section
variable {d:District}{out:List Order}
theorem YT:∀ (n k:Nat) (w:WM) (m m':Mp),Eqv w m->aq (bE d out) n k m=.inr m'->∃ w',aq (ig out d) n k w=.inr w'/\Eqv w' m'
 |0,k,w,m,m',h,e=>by
  grind [aq]
 |n+1,k,w,m,m',h,e=>by
  simp only[aq]at e |-;cases hs:bE d out k m with
  |inl x=>grind
  |inr m1=>
   rw[hs]at e;simp only at e;refine YT n (k+1) _ m1 m' ?_ e;unfold bE at hs;cases ho:(out.getD k (default:Order)).outlet with
   |false=>grind
   |true=>
    rw[ho]at hs;simp only[aiP,cond_false,aiZ]at hs;subst hs;have h1:=h (d.farms.getD (Int.toNat ((out.getD k (default:Order)).index)) (default:Farm)).reach (out.getD k (default:Order)).hour;have:=h.put (d.farms.getD (Int.toNat ((out.getD k (default:Order)).index)) (default:Farm)).reach (out.getD k (default:Order)).hour (i64.wrap ((aZ .int2 .int m ((d.farms.getD (Int.toNat ((out.getD k (default:Order)).index)) (default:Farm)).reach,(out.getD k (default:Order)).hour))+(out.getD k (default:Order)).litres));rw[<-h1]at this |-;exact this
theorem J9 (s:TimetableSlot):aZ .timetableSlot .bool [] s=false:=rfl
theorem GJ {s1:List Fault×WM×UM×Int}{r:Nat}(hs:s1.2.2.2=(r:Int)){H:Nat}:∀ (n k:Nat) (l:List Order) (m:Mp) (w:WM),k+n=H->Eqv w m->
  (∃ l' m' w',dR (aH d) (D7 r H k) (l,m)=.inr (l',m')/\aq (aN d s1) n k ([],[],w)=.inr ([],[],w')/\Eqv w' m')\/
  ((∃ y,dR (aH d) (D7 r H k) (l,m)=.inl y)/\∃ u' F' w',aq (aN d s1) n k ([],[],w)=.inr (u',F',w')/\F'≠[])
 |0,k,l,m,w,hk,h=>by
  have:k=H:=by omega
  subst this;rw[Cm];exact .inl ⟨l,m,w,rfl,rfl,h⟩
 |n+1,k,l,m,w,hk,h=>by
  rw[uj (by omega:k<H)];have hg:=h (r:Int) (k:Int);rw[<-hs]at hg;simp only[dR,aq];by_cases h0:aZ .timetableSlot .int w (sl s1.2.2.2 k)=0
  have e1:aH d ((r:Int),(k:Int)) (l,m)=.inr (l,m):=by
   simp_all [aH]
  rw[e1,IG (J9 _) h0];exact GJ hs n (k+1) l m w (by omega) h;by_cases hb:(aQ (rch d s1.2.2.2) (aZ .timetableSlot .int w (sl s1.2.2.2 k))).2=false\/(k:Int) < (rch d s1.2.2.2).delay
  refine .inr ⟨?_,?_⟩;have e1:aH d ((r:Int),(k:Int)) (l,m)=.inl m:=by
   unfold aH;grind
  grind
  obtain⟨u',e⟩:=Ma (F:=[]) (J9 _) h0 hb;rw[e];obtain⟨u2,T2,w2,e2,_⟩:=Cq (d:=d) (s1:=s1) n (k+1) u' ([]++[ltF k s1.2.2.2 (aZ .timetableSlot .int w (sl s1.2.2.2 k))]) w;grind
  have hv:(aQ (rch d s1.2.2.2) (aZ .timetableSlot .int w (sl s1.2.2.2 k))).2=true:=by
   grind
  have hk2:¬ (k:Int) < (rch d s1.2.2.2).delay:=fun q=>hb (.inr q);rw[IH (J9 _) h0 hv hk2];rw[hg]at h0 hv |-;rw[hs]at h0 hv hk2 |-;have e1:aH d ((r:Int),(k:Int)) (l,m)=.inr (l++[({ hour:=(i64.wrap ((k:Int) - (rch d (r:Int)).delay)),index:=(r:Int),litres:=(aQ (rch d (r:Int)) (aZ .int2 .int m ((r:Int),(k:Int)))).1,outlet:=false}:Order)],fN .int2 .int m ((rch d (r:Int)).up,i64.wrap ((k:Int) - (rch d (r:Int)).delay)) (i64.wrap ((aZ .int2 .int m ((rch d (r:Int)).up,i64.wrap ((k:Int) - (rch d (r:Int)).delay)))+(aQ (rch d (r:Int)) (aZ .int2 .int m ((r:Int),(k:Int)))).1))):=by
   unfold aH;grind
  rw[e1,h];exact GJ hs n (k+1) _ _ _ (by omega) (h.put _ _ _)
theorem Mb:∀ (m n j:Nat) (l:List Order) (md:Mp) (w:WM),m<n->m<=1000000->Eqv w md->(∃ y,dR (aH d) (z8 d.hours.toNat m) (l,md)=.inl y)->
  ∃ T,aq (cd d) n j ([],w,[],(m:Int) - 1)=.inl T/\T≠[]
 |0,n,j,l,md,w,_,_,_,⟨y,e⟩ =>by simp[z8,dR]at e
 |m+1,n+1,j,l,md,w,hmn,hm,h,⟨y,e⟩ =>by
  rw[zt]at e;have hs:(([],w,[],((m+1:Nat):Int) - 1):List Fault×WM×UM×Int).2.2.2=(m:Int):=by grind
  rcases GJ (d:=d) hs (H:=d.hours.toNat) d.hours.toNat 0 l md w (by omega) h with⟨l',m',w',e1,e2,h'⟩ | ⟨_,u',F',w',e2,hF⟩;rw[DK,e1]at e;obtain⟨T,e3,hT⟩:=Mb m n (j+1) l' m' w' (by omega) (by omega) h' ⟨y,e⟩;refine⟨T,?_,hT⟩;simp only[aq];grind [PT]
  obtain⟨T,e3,_⟩:=Es (d:=d) m n (j+1) F' w' u' (by omega) (by omega);refine⟨F'++T,?_,by simp[hF]⟩;simp only[aq];grind [PT]
theorem Be (hr:Right1 d)(ho:Orders1 d out)(hall:∀ x∈out,x.outlet=true):∃ w0,aq (ig out d) out.length 0 []=.inr w0/\(∃ m,aq (bE d out) out.length 0 []=.inr m/\Eqv w0 m)/\
  aq (cd d) (d.reaches.length+1) 0 ([],w0,[],i64.wrap ((d.reaches.length:Int) - 1))=.inl (cB out d)/\∀ f∈cB out d,f.kind=7:=by
 obtain⟨m,hm⟩:=(Dg hr ho).2.2 hall;obtain⟨w0,e0,h0⟩:=YT out.length 0 [] [] m (fun _ _=>rfl) hm;have hR:=hr.reaches;obtain⟨T,e1,h1⟩:=Es (d:=d) d.reaches.length (d.reaches.length+1) 0 [] w0 [] (by omega) (by omega);have hw:i64.wrap ((d.reaches.length:Int) - 1)=(d.reaches.length:Int) - 1:=cI (by omega) (by omega);grind [cB]
theorem aa0 (hr:Right1 d)(ho:Orders1 d out)(hall:∀ x∈out,x.outlet=true):jS out d ((cB out d).map jv):=by
 obtain⟨w0,e0,_,e1,_⟩:=Be hr ho hall;intro _;have hR:=hr.reaches;have hh:=hr.hours;refine⟨?_,fun s_0 hs _=>?_⟩;have hst:∀ j s,0<=j->j<0+out.length->jV out d j s:=fun j s _ hj=>by
  have h1:=ho.one j (by omega);have h2:(out.getD j (default:Order)).outlet=true:=hall _ (Dc _ _ (by omega));exact⟨h1.index0,h1.farm h2⟩
 exact BI (fun _ _=>True) _ _ _ trivial fun j s h1 h2 _=>⟨hst j s h1 h2,fun _ _=>trivial⟩;rw[e0]at hs;simp only[aiZ]at hs;subst hs;have hw:i64.wrap ((d.reaches.length:Int) - 1)=(d.reaches.length:Int) - 1:=cI (by omega) (by omega);refine⟨?_,fun z hz=>?_,fun x hx=>?_⟩;rw[hw]at e1 |-;exact U5 hh _ _ _ _ _ _ (by omega) (by omega) (aio _) fun x hx=>by
  grind
 grind
 grind
theorem XR (hr:Right1 d)(ho:Orders1 d out)(hall:∀ x∈out,x.outlet=true)(hP:(bj d out).2.1=false)(hP2:(bj d out).2.2=0):cB out d≠[]:=by
 obtain⟨w0,e0,⟨m,hm,h0⟩,e1,_⟩:=Be hr ho hall;have hR:=hr.reaches;have hw:i64.wrap ((d.reaches.length:Int) - 1)=(d.reaches.length:Int) - 1:=cI (by omega) (by omega);have hy:∃ y,dR (aH d) (cK d) (out,m)=.inl y:=by
  cases q:dR (aH d) (cK d) (out,m)with
  |inl y=>grind
  |inr s=>
   exfalso;unfold bj at hP hP2;grind
 obtain⟨T,e3,hT⟩:=Mb (d:=d) d.reaches.length (d.reaches.length+1) 0 out m w0 (by omega) (by omega) h0 hy;grind
end
abbrev F5:=Int×Int×Int×Int×Int
def Ru (f:Fault):F5:=(f.kind,f.hour,f.index,f.litres,f.limit)
theorem J_ (out:List Order)(d:District):∀ (L:List Fault) (s:F5),∃ s',dR (eJ out d) L s=.inr s'/\(s'=s\/∃ f∈L,s'=Ru f)
 | [],s=>⟨s,rfl,.inl rfl⟩
 |f::L,s=>by
  have h1:eJ out d f s=.inr (Ru f)\/eJ out d f s=.inr s:=by
   grind [eJ,Ru]
  simp only[dR];rcases h1 with h1|h1;rw[h1];obtain⟨s',e,h⟩:=J_ out d L (Ru f);grind
  rw[h1];obtain⟨s',e,h⟩:=J_ out d L s;grind
theorem Rv {out:List Order}{d:District}(h:cB out d≠[]):j5 out d∈cB out d:=by
 unfold j5;cases hL:cB out d with
 |nil=>grind
 |cons f L=>
  have h1:eJ out d f (0,0,0,0,0)=.inr (Ru f):=by
   rfl
  obtain⟨s',e,h⟩:=J_ out d L (Ru f);simp only[dR,h1,e];rcases h with rfl| ⟨g,hg,rfl⟩;exact ai6;exact aiz _ hg
theorem Dh {f:Nat->List Fault}{step:Nat->List Fault->Empty⊕List Fault}:∀ (n i:Nat) (s:List Fault),(∀ j s,i<=j->j<i+n->step j s=.inr (s++f j))->aq step n i s=.inr (s++(List.range' i n).flatMap f)
 |0,i,s,_=>by simp[aq]
 |n+1,i,s,h=>by
  simp only[aq,h i s (aio _) (by omega)];rw[Dh n (i+1) (s++f i) fun j s h1 h2=>h j s (by omega) (by omega)];simp[aj1]
theorem GK {f:Nat->List Fault}{step:Nat->List Fault->Empty⊕List Fault}{p:Nat->List Fault->Prop}{items:List (List SV)}:∀ (n i:Nat) (s:List Fault),(∀ j s,i<=j->j<i+n->step j s=.inr (s++f j))->
  (∀ j s,i<=j->j<i+n->(s++f j).map jv<+:items->p j s)->(s++(List.range' i n).flatMap f).map jv<+:items->okI step p n i s
 |0,_,_,_,_,_=>trivial
 |n+1,i,s,h,hp,hi=>by
  rw[aj1,ai5,<-ajF]at hi;refine⟨hp i s (aio _) (by omega) (aj6 (by grind) hi),fun s' e=>?_⟩;rw[h i s (aio _) (by omega)]at e;simp only[aiZ]at e;subst e;exact GK n (i+1) (s++f i) (fun j s h1 h2=>h j s (by omega) (by omega)) (fun j s h1 h2=>hp j s (by omega) (by omega)) hi
def g0P (x:Order):Bool:= !x.outlet&&x.index==0
section
variable {d:District}{l:List Order}
theorem NQ (ho:Orders1 d l):∃ s0,aq (aX l) l.length 0 ([],0)=.inr s0/\(∀ r h,aZ .timetableSlot .int s0.1 (sl r h)=d4 (gu r h h) l)/\s0.2=d4 g0P l:=by
 obtain⟨s,e,h1,h2⟩:=J4 (step:=aX l) (fun j s=>(∀ r h,aZ .timetableSlot .int s.1 (sl r h)=d4 (gu r h h) (l.take j))/\s.2=d4 g0P (l.take j)) l.length 0 ([],0) ⟨fun _ _=>rfl,rfl⟩ (fun j s _ hj ⟨h1,h2⟩ =>by
  have hj:j<l.length:=by omega
  have hb:=PO ho g0P j;have hlit:=ho.lit _ (ai_ hj);unfold aX;rw[nq _ _ hj];cases hout:l[j].outlet with
  |true=>
   grind [zR,gu,g0P]
  |false=>
   have hg:∀ r h,aZ .timetableSlot .int (fN .timetableSlot .int s.1 (sl l[j].index l[j].hour) l[j].litres) (sl r h)=d4 (gu r h h) (l.take (j+1)):=fun r h=>by
    rw[qo,zR hj,h1];by_cases q:r=l[j].index/\h=l[j].hour
    obtain⟨rfl,rfl⟩:=q;have hp:gu l[j].index l[j].hour l[j].hour l[j]=true:=by grind [gu]
    rw[if_pos rfl,hp,Rp ho hj (fun x hx=>?_)];simp;unfold gu at hx;grind
    have hp:gu r h h l[j]=false:=by
     cases hc:gu r h h l[j]with
     |false=>rfl
     |true=>
      unfold gu at hc;grind
    simp_all [U6]
   by_cases h0:l[j].index=0
   have hb0:(l[j].index==0)=true:=by rw[h0];rfl
   simp only[aiY,cond_true,hb0];refine⟨_,rfl,hg,?_⟩;have:g0P l[j]=true:=by grind [g0P]
   rw[zR hj,this,h2,cI (by omega) (by omega),cond_true];have hb0:(l[j].index==0)=false:=by grind
   simp only[aiY,cond_true,hb0,cond_false];refine⟨_,rfl,hg,?_⟩;grind [g0P,zR])
 grind
theorem U7 (ho:Orders1 d l){s0:WM×Int}(hg:∀ r h,aZ .timetableSlot .int s0.1 (sl r h)=d4 (gu r h h) l)(h i:Nat)(hh:h<=1000000)(n:Nat)(hn:n<=1000000):
  aq (iA d s0 h i) n 0 0=.inr (d4 (gu i ((h:Int) - n+1) h) l):=by
 obtain⟨s,e,h1⟩:=J4 (step:=iA d s0 h i) (fun j s=>s=d4 (gu i ((h:Int) - j+1) h) l) n 0 0 (sn (fun x _=>by
   cases hc:gu i ((h:Int) - (0:Nat)+1) h x with
   |false=>rfl
   |true=>
    unfold gu at hc;grind)).symm (fun j s _ hj hs=>by
  refine⟨_,rfl,?_⟩;have e1:=hg (i:Int) ((h:Int) - (j:Int));unfold sl at e1;have e2:=UZ ho (i:Int) (a:=(h:Int) - j) (m:=(h:Int) - j+1) (b:=(h:Int)) (by omega) (by omega);have e3:=UY ho (gu i ((h:Int) - j) ((h:Int) - j));have e4:=UY ho (gu i ((h:Int) - j+1) h);rw[show(h:Int) - j+1 - 1=(h:Int) - j by omega]at e2;rw[cI (n:=(h:Int) - (j:Int)) (by omega) (by omega),e1,hs,cI (by omega) (by omega),show(h:Int) - ((j+1:Nat):Int)+1=(h:Int) - j by omega];omega)
 grind
def bk (d:District)(l:List Order)(h i:Nat):List Fault:=
 (if d4 (gu i h h) l > (rch d i).cap then [{ kind:=1,hour:=(h:Int),index:=(i:Int),litres:=d4 (gu i h h) l,limit:=(rch d i).cap}]else [])++
 (if d4 (gu i ((h:Int) - (rch d i).delay+1) h) l > (rch d i).bank then [{ kind:=3,hour:=(h:Int),index:=(i:Int),litres:=d4 (gu i ((h:Int) - (rch d i).delay+1) h) l,limit:=(rch d i).bank}]else [])
theorem PU (ho:Orders1 d l){s0:WM×Int}(hg:∀ r h,aZ .timetableSlot .int s0.1 (sl r h)=d4 (gu r h h) l){h i:Nat}(hh:h<=1000000)(hi:i<d.reaches.length)(s:List Fault){items:List (List SV)}:
  fZ d s0 h i s=.inr (s++bk d l h i)/\((s++bk d l h i).map jv<+:items->i5 d items s0 h i s):=by
 have hx:=ho.right.reach1 hi;have hd1:=hx.delay1;have hd2:=hx.delay;have e1:=U7 ho hg h i hh (Int.toNat (d.reaches.getD i (default:Reach)).delay) (by omega);have e2:=hg (i:Int) (h:Int);unfold sl at e2;have e3:((Int.toNat (d.reaches.getD i (default:Reach)).delay:Nat):Int)=(rch d (i:Int)).delay:=by
  grind
 rw[e3]at e1;have e4:d.reaches.getD i (default:Reach)=rch d (i:Int):=by rfl
 have hdl:(d.reaches.getD i (default:Reach)).delay<9223372036854775808:=by omega
 refine⟨?_,fun hp=>⟨hdl,fun s3 h3=>?_⟩⟩;grind [fZ,bk]
 rw[e1]at h3;simp only[aiZ]at h3;subst h3;simp only[e2];rw[e4];unfold bk at hp;generalize d4 (gu i ((h:Int) - (rch d (i:Int)).delay+1) h) l=B at hp |-;generalize d4 (gu i h h) l=A at hp |-;generalize rch d (i:Int)=x at hp |-;refine⟨fun q1=>⟨?_,fun q2=>?_,fun q=>q⟩,fun q1=>⟨q1,fun q2=>?_,fun q=>q⟩⟩;rw[if_pos (of_decide_eq_true q1),<-ajF]at hp;refine Er (aj6 ?_ hp);grind
 rw[if_pos (of_decide_eq_true q1),if_pos (of_decide_eq_true q2),<-ajF]at hp;exact Er hp;rw[if_neg (of_decide_eq_false q1),if_pos (of_decide_eq_true q2),aiC]at hp;exact Er hp
def bkH (d:District)(l:List Order)(h:Nat):List Fault:=(List.range' 0 d.reaches.length).flatMap (bk d l h)
theorem PW (ho:Orders1 d l){s0:WM×Int}(hg:∀ r h,aZ .timetableSlot .int s0.1 (sl r h)=d4 (gu r h h) l){h:Nat}(hh:h<=1000000)(s:List Fault){items:List (List SV)}:
  fg d s0 h s=.inr (s++bkH d l h)/\((s++bkH d l h).map jv<+:items->i6 d items s0 h s):=by
 have key:∀ j s,0<=j->j<0+d.reaches.length->fZ d s0 h j s=.inr (s++bk d l h j):=fun j s _ hj=>(PU ho hg hh (by omega) s (items:=items)).1;refine⟨?_,fun hp _=>?_⟩;unfold fg;rw[Dh d.reaches.length 0 s key];rfl;exact GK d.reaches.length 0 s key (fun j s _ hj hq=>(PU ho hg hh (by omega) s).2 hq) hp
def zB (d:District)(l:List Order):List Fault:=(List.range' 0 d.hours.toNat).flatMap (bkH d l)++(if d4 g0P l > d.tank.start then [{ kind:=4,hour:=0,index:=0,litres:=d4 g0P l,limit:=d.tank.start}]else [])
theorem II (ho:Orders1 d l):eI l d=zB d l/\iV l d ((eI l d).map jv):=by
 obtain⟨s0,e0,hg,h0⟩:=NQ ho;have hh:=ho.right.hours;have key:∀ j s,0<=j->j<0+d.hours.toNat->fg d s0 j s=.inr (s++bkH d l j):=fun j s _ hj=>(PW ho hg (by omega) s (items:=[])).1;have e1:=Dh d.hours.toNat 0 [] key;have e2:eI l d=zB d l:=by
  unfold eI zB;grind
 refine⟨e2,?_⟩;rw[e2];intro _ s hs;rw[e0]at hs;simp only[aiZ]at hs;subst hs;refine⟨by omega,?_,fun s1 hs1=>?_⟩;refine GK d.hours.toNat 0 [] key (fun j s _ hj hq=>(PW ho hg (by omega) s).2 hq) ?_;grind [zB]
 simp_all [zB]
structure Lim (d:District)(l:List Order):Prop where
 cap:∀ h i:Nat,h<d.hours.toNat->i<d.reaches.length->d4 (gu i h h) l<=(rch d i).cap
 bank:∀ h i:Nat,h<d.hours.toNat->i<d.reaches.length->d4 (gu i ((h:Int) - (rch d i).delay+1) h) l<=(rch d i).bank
 tank:d4 g0P l<=d.tank.start
theorem aa1 {h i:Nat}:bk d l h i=[]↔d4 (gu i h h) l<=(rch d i).cap/\d4 (gu i ((h:Int) - (rch d i).delay+1) h) l<=(rch d i).bank:=by
 unfold bk;simp_all
theorem IJ:zB d l=[]↔Lim d l:=by
 unfold zB bkH;simp only[akG,akg,List.mem_range',aa1];constructor
 rintro⟨h1,h2⟩;refine⟨fun h i hh hi=>(h1 h ⟨h,hh,by omega⟩ i ⟨i,hi,by omega⟩).1,fun h i hh hi=>(h1 h ⟨h,hh,by omega⟩ i ⟨i,hi,by omega⟩).2,?_⟩;grind
 intro h;refine⟨?_,if_neg (by have:=h.tank;omega)⟩;rintro a ⟨h',hh,rfl⟩ b ⟨i,hi,rfl⟩;exact⟨h.cap _ _ (by omega) (by omega),h.bank _ _ (by omega) (by omega)⟩
theorem NR:∀ f∈zB d l,f.kind≠0/\f.limit<f.litres:=by
 intro f hf;unfold zB bkH bk at hf;grind
end
section
variable {d:District}{c:List Claim}
theorem AB (s:List Order):bG s=true↔∃ x∈s,x.litres > 1073741824:=by
 unfold bG dT;have hst:∀ j,bF s j ()=bif decide ((s.getD j default).litres > 1073741824)then .inl (j:Int)else .inr ():=fun j=>rfl;have key:∀ n i,(∀ j,i<=j->j<i+n->¬ (s.getD j default).litres > 1073741824)->aq (bF s) n i ()=.inr ():=by
  intro n;induction n with
  |zero=>intro i _;rfl
  |succ n ih=>
   intro i h;simp only[aq,hst];grind
 have key2:∀ n i x,aq (bF s) n i ()=.inl x->0<=x/\∃ j,i<=j/\j<i+n/\(s.getD j default).litres > 1073741824:=by
  intro n;induction n with
  |zero=>grind
  |succ n ih=>
   intro i x h;simp only[aq,hst]at h;grind
 constructor
 grind
 rintro⟨x,hx,hl⟩;obtain⟨j,hj,rfl⟩:=aiN hx;cases hr:aq (bF s) s.length 0 ()with
 |inl x=>grind
 |inr u=>
  have h1:=Np hr j (aiX _) (by omega);grind
structure Askd (d:District)(c:List Claim):Prop where
 chk:aK d c=0
 wide:(d.reaches.length:Int)*d.hours<=1024
 lit:∀ x∈an c,x.litres<=1073741824
theorem Et (h:aK d c=0):okL1 c:=by
 obtain⟨_,h2,h3,_⟩:=(Ba d c).1 h;exact⟨h2,fun a ha=>NP (h3 a ha)⟩
theorem U8 (h:aK d c=0):Right1 d:=y8 (by grind [Ba])
theorem XS (h:aK d c=0):i64.wrap ((d.reaches.length:Int)*d.hours)=(d.reaches.length:Int)*d.hours:=by
 have:=IA (U8 h);exact cI (by omega) (by omega)
theorem zS:(aY d c).2=0↔Askd d c:=by
 unfold aY;by_cases h1:aK d c=0
 rw[h1];simp only[bne_self_eq_false,cond_false];rw[XS h1];by_cases h2:(d.reaches.length:Int)*d.hours > 1024
 rw[decide_eq_true h2,cond_true];constructor
 omega;intro h;have:=h.wide;omega;rw[decide_eq_false h2,cond_false];cases h3:bG (an c)with
 |true=>
  rw[cond_true];obtain⟨x,hx,hl⟩:=(AB _).1 h3;constructor
  omega;intro h;have:=h.lit x hx;omega
 |false=>
  rw[cond_false];refine⟨fun _=>⟨h1,by omega,fun x hx=>?_⟩,fun _=>rfl⟩;by_cases q:x.litres > 1073741824
  have:=(AB _).2 ⟨x,hx,q⟩;grind
  omega
 have:(aK d c !=0)=true:=by grind
 rw[this,cond_true];exact⟨fun h=>absurd h h1,fun h=>absurd h.chk h1⟩
theorem IK (h:Askd d c):aY d c=(an c,0):=by
 have h2:=zS.2 h;unfold aY at h2 |-;grind
theorem U9 (d:District)(c:List Claim):nD d c:=by
 refine⟨Rm d c,fun h _ _=>Rr (Et (d:=d) ?_)⟩;simpa using h
theorem Askd.outs (h:Askd d c):Outs c (an c):=Sx.outs (Et h.chk)
theorem Askd.nar (h:Askd d c):Nar d (an c):=by
 obtain⟨h1,h2,h3,_⟩:=(Ba d c).1 h.chk;have ho:=h.outs;refine⟨⟨h1,aiR ho.len h2,fun x hx=>?_,ho.asc⟩,h.wide⟩;obtain⟨a,ha,e1,e2⟩:=ho.src x hx;have hk:=h3 a ha;unfold okC at hk;simp only[aim,decide_eq_true_eq]at hk;have hout:=ho.out x hx;have hl:=ho.lit x hx;have hl2:=h.lit x hx;exact⟨by omega,by omega,by omega,fun _=>by omega,fun q=>(by grind),hl.2,hl2⟩
theorem Bf (d:District)(c:List Claim):
  (¬Askd d c/\(aY d c).2≠0/\dU d c=([],({ kind:=0,hour:=0,index:=0,litres:=0,limit:=0}:Fault),(aY d c).2))\/
  (Askd d c/\(∃ gs,PFin d (an c) gs/\4096< (an c++gs).length)/\dU d c=([],({ kind:=0,hour:=0,index:=0,litres:=0,limit:=0}:Fault),2))\/
  (Askd d c/\(∃ gs r h,PX d (an c) gs r h)/\cB (an c) d≠[]/\dU d c=([],j5 (an c) d,0))\/
  (Askd d c/\∃ gs,PL d (an c) gs/\¬Lim d (srt aA (an c++gs))/\∃ f∈zB d (srt aA (an c++gs)),dU d c=([],f,0))\/
  (Askd d c/\∃ gs,PL d (an c) gs/\Lim d (srt aA (an c++gs))/\dU d c=(srt aA (an c++gs),({ kind:=0,hour:=0,index:=0,litres:=0,limit:=0}:Fault),0)):=by
 by_cases hA:Askd d c
 refine .inr ?_;have ha:=IK hA;have hN:=hA.nar;have hall:=hA.outs.out;unfold dU;simp only[ha,bne_self_eq_false,cond_false];rcases GC d (an c)with⟨q,_⟩ | ⟨_,q,_⟩ | ⟨_,_,hx,e⟩ | ⟨_,_,gs,hF,hlen,e⟩ | ⟨_,_,gs,hP,e⟩;exact absurd ((A_ _ _).2 hN) q;grind
 refine .inr (.inl ⟨hA,hx,?_,?_⟩);exact XR hN.good.right hN.good.orders hall (by rw[e]) (by rw[e]);grind
 grind
 have hg:=hP.good;have hb:=(II hg.orders).1;rw[e];simp only[bne_self_eq_false,cond_false,aiP];rw[hb];cases hB:zB d (srt aA (an c++gs))with
 |nil=>exact .inr (.inr (.inr ⟨hA,gs,hP,IJ.1 hB,rfl⟩))
 |cons f r=>
  refine .inr (.inr (.inl ⟨hA,gs,hP,fun q=>?_,f,?_,?_⟩));rw[IJ.2 q]at hB;cases hB;grind
  rfl
 refine .inl ⟨hA,fun q=>hA (zS.1 q),?_⟩;have:((aY d c).2 !=0)=true:=by
  rw[bne_iff_ne];exact fun q=>hA (zS.1 q)
 unfold dU;grind
theorem U_ (d:District)(c:List Claim):nE d c:=by
 refine⟨U9 d c,fun h=>?_⟩;have hA:Askd d c:=zS.1 (by simpa using h);have ha:=IK hA;rw[ha];have hN:=hA.nar;have hall:=hA.outs.out;refine⟨aaX _ _,fun h2=>⟨fun _=>?_,fun h3=>?_⟩⟩;exact aa0 hN.good.right hN.good.orders hall;rcases GC d (an c)with⟨_,e⟩ | ⟨_,_,e⟩ | ⟨_,_,_,e⟩ | ⟨_,_,gs,_,_,e⟩ | ⟨_,_,gs,hP,e⟩;grind
 grind
 grind
 grind
 rw[e];exact(II hP.good.orders).2
theorem PY (d:District)(c:List Claim):lL d c:=U_ d c
theorem YU {f:Fault}(h:f.kind≠0)(e:Int):((e==0)&&((f.kind==0)&&((f.hour==0)&&((f.index==0)&&((f.litres==0)&&(f.limit==0))))))=false:=by
 grind
structure Made (d:District)(c:List Claim)(l:List Order):Prop where
 ask:Askd d c
 plan:∃ gs,PL d (an c) gs/\l=srt aA (an c++gs)
 lim:Lim d l
theorem Va (d:District)(c:List Claim)(h:(bp d c).2.2=0)(h2:(bp d c).2.1=true):Made d c (bp d c).1:=by
 rcases Bf d c with⟨_,h1,e⟩ | ⟨_,_,e⟩ | ⟨hA,_,hl,e⟩ | ⟨hA,gs,hP,_,f,hf,e⟩ | ⟨hA,gs,hP,hL,e⟩;unfold bp at h;rw[e]at h;exact absurd h h1;unfold bp at h;rw[e]at h;cases h;unfold bp at h2;rw[e]at h2;have hN:=hA.nar;have:=(Be hN.good.right hN.good.orders hA.outs.out).choose_spec.2.2.2 _ (Rv hl);rw[YU (by rw[this];decide)]at h2;cases h2;unfold bp at h2;rw[e]at h2;rw[YU (NR f hf).1]at h2;cases h2;have e1:(bp d c).1=srt aA (an c++gs):=by unfold bp;rw[e]
 rw[e1];exact⟨hA,⟨gs,hP,rfl⟩,hL⟩
end
section
variable {d:District}{c:List Claim}{l:List Order}
structure Srv (d:District)(c:List Claim)(l:List Order):Prop where
 kp:Keeps d l
 wide:(d.reaches.length:Int)*d.hours<=1024
 lim:Lim d l
 met:∀ f h:Int,wx c f h<=d4 (GF f h) l
theorem Mc {f h:Int}{x y:Order}(hx:GF f h x=true)(hy:GF f h y=true):K x y:=by
 unfold GF at hx hy;simp only[aim,beq_iff_eq]at hx hy;exact⟨by omega,by omega,by grind⟩
theorem Rw {x:Order}(h:x.outlet=true):GF x.index x.hour x=true:=by grind [GF]
theorem PZ (hk:l.Pairwise fun x y=>¬K x y){x:Order}(hx:x∈l)(h:x.outlet=true):d4 (GF x.index x.hour) l=x.litres:=
 v7 hk (fun _ _ h1 h2=>Mc h1 h2) hx (Rw h)
theorem Vb (hA:Askd d c){gs:List Order}{x:Order}:x∈srt aA (an c++gs)↔x∈an c\/x∈gs:=by
 grind [tb]
theorem Vc (h:Made d c l):Srv d c l:=by
 obtain⟨hA,⟨gs,hP,rfl⟩,hL⟩:=h;have hN:=hA.nar;have ho:=hA.outs;refine⟨NN hN.good ho.out hP,hA.wide,hL,fun f t=>?_⟩;by_cases h0:wx c f t=0
 rw[h0];exact J3 fun x hx=>by have:=(hP.good.one x hx).litres1;omega
 obtain⟨x,hx,rfl,rfl⟩:=ho.all f t h0;rw[PZ hP.good.keys ((Vb hA).2 (.inl hx)) (ho.out x hx),(ho.lit x hx).1];omega
theorem Srv.dom (h:Srv d c l)(hc:aK d c=0):∀ x∈an c,∃ z∈l,K z x/\x.litres<=z.litres:=fun x hx=>by
 have ho:=outs (Et hc);have h1:=ho.lit x hx;have h2:=h.met x.index x.hour;obtain⟨z,hz,hp⟩:=J2 (p:=GF x.index x.hour) (l:=l) (by omega);have e:d4 (GF x.index x.hour) l=z.litres:=v7 h.kp.good.keys (fun _ _ h1 h2=>Mc h1 h2) hz hp;refine⟨z,hz,?_,by omega⟩;unfold GF at hp;simp only[aim,beq_iff_eq]at hp;exact⟨hp.2,hp.1.2,by rw[hp.1.1,ho.out x hx]⟩
theorem Srv.ask (h:Srv d c l)(hc:aK d c=0):Askd d c:=by
 refine⟨hc,h.wide,fun x hx=>?_⟩;obtain⟨z,hz,_,hl⟩:=h.dom hc x hx;have:=(h.kp.good.one z hz).litres;omega
theorem P2 (r a b:Int)(x y:Order)(hk:K x y):gu r a b x=gu r a b y:=by
 unfold gu;rw[hk.1,hk.2.1,hk.2.2]
theorem afE (x y:Order)(hk:K x y):g0P x=g0P y:=by
 unfold g0P;rw[hk.2.1,hk.2.2]
theorem XT {m:List Order}(hm:Good d m)(hl:Good d l)(h:∀ x∈m,∃ z∈l,K z x/\x.litres<=z.litres)(hL:Lim d l):Lim d m:=by
 have key:∀ P:Order->Bool,(∀ x y,K x y->P x=P y)->d4 P m<=d4 P l:=fun P hP=>
  zx hP m l hm.keys (fun x hx _=>h x hx) fun z hz=>by have:=(hl.one z hz).litres1;omega
 exact⟨fun t i ht hi=>akp (key _ (P2 _ _ _)) (hL.cap t i ht hi),fun t i ht hi=>akp (key _ (P2 _ _ _)) (hL.bank t i ht hi),akp (key _ afE) hL.tank⟩
theorem Rx (h:Srv d c l)(hc:aK d c=0):
  (bp d c).2.2=0/\(bp d c).2.1=true/\∀ x∈(bp d c).1,∃ z∈l,K z x/\x.litres<=z.litres:=by
 have hA:=h.ask hc;have hN:=hA.nar;have ho:=hA.outs;have hdom:=h.dom hc;have hfin:∀ gs,PFin d (an c) gs->∀ x∈an c++gs,∃ z∈l,K z x/\x.litres<=z.litres:=fun gs hP x hx=>by
  rcases aix.1 hx with hx|hx;grind
  exact IE hN.good.right (zw hN.good ho.out hP) hP.gate hdom h.kp d.reaches.length x hx (by have:=(hP.gate x hx).i0;omega)
 have hall:∀ gs,PL d (an c) gs->∀ x∈srt aA (an c++gs),∃ z∈l,K z x/\x.litres<=z.litres:=fun gs hP x hx=>hfin gs hP.fin x ((tb _).mem_iff.1 hx);rcases Bf d c with⟨q,_⟩ | ⟨_,⟨gs,hF,hlen⟩,_⟩ | ⟨_,⟨gs,r,t,hx⟩,_⟩ | ⟨_,gs,hP,hL,_⟩ | ⟨_,gs,hP,hL,e⟩;grind
 have:=GD _ l (zw hN.good ho.out hF) fun x hx=>by
  grind
 have:=h.kp.good.len;omega;exact(XN hN.good ho.out hx hdom h.kp).elim;exact absurd (XT hP.good h.kp.good (hall gs hP) h.lim) hL;grind [bp]
end
theorem IL {p:Order->Bool}{g:Order->Int}:∀ {l:List Order},(∀ x∈l,p x=true->x.litres=g x)->d4 p l=(l.map fun x=>if p x=true then g x else 0).sum
 | [],_=>rfl
 |x::l,h=>by
  have ih:=IL (p:=p) (g:=g) (l:=l) fun y hy=>h y (aiz _ hy);simp only[d4,aiW,akv,ih];grind
theorem Md (g k:Order->Int):∀ l:List Order,(l.map fun x=>g x+k x).sum=(l.map g).sum+(l.map k).sum
 | [] =>rfl
 |x::l=>by simp only[aiW,akv,Md g k l];omega
theorem Di {g:Order->Int}:∀ {l:List Order},(∀ x∈l,g x=0)->(l.map g).sum=0
 | [],_=>rfl
 |x::l,h=>by simp only[aiW,akv,Di fun y hy=>h y (aiz _ hy),h x ai6];rfl
theorem Me {g:Order->Int}{z:Order}:∀ {l:List Order},l.Pairwise (fun x y=>¬K x y)->z∈l->(∀ x∈l,¬K x z->g x=0)->(l.map g).sum=g z
 |x::l,hk,hz,h=>by
  obtain⟨h1,h2⟩:=aiM.1 hk;simp only[aiW,akv];rcases aiu.1 hz with rfl|hz;rw[Di fun y hy=>h y (aiz _ hy) fun q=>h1 y hy q.symm];omega;rw[Me h2 hz fun y hy=>h y (aiz _ hy),h x ai6 (h1 z hz)];omega
theorem GL {p:CertifyPlace}:∀ {c:List Claim},(∀ a∈c,1<=a.litres)->0<=iu p c
 | [],_=>ajc _
 |a::c,h=>by
  have:=GL (p:=p) fun b hb=>h b (aiz _ hb);grind [iu]
theorem GM {y:Claim}:∀ {c:List Claim},(∀ a∈c,1<=a.litres)->y∈c->1<=iu (so y) c
 |a::c,h,hy=>by
  have h0:0<=iu (so y) c:=GL fun a ha=>h a (aiz _ ha);have h1:=h a ai6;unfold iu;rcases aiu.1 hy with rfl|hy;grind
  have:=GM (fun b hb=>h b (aiz _ hb)) hy;omega
section
variable {d:District}
theorem Vd {r h:Int}{x:Order}(hx:x.outlet=true):qx d r h x=((x.hour==h)&&(rf d x.index==r)):=by
 grind [qx,rf]
theorem IM {c:List Claim}{o:List Order}(ho:Outs c o)(hl:∀ a∈c,1<=a.litres)(hk:o.Pairwise fun x y=>¬K x y)(r h:Int):d4 (qx d r h) o=JW d c r h:=by
 rw[IL fun x hx _=>(ho.lit x hx).1];have key:∀ c':List Claim,(∀ a∈c',∃ z∈o,z.index=a.farm/\z.hour=a.hour)->(o.map fun x=>if qx d r h x=true then wx c' x.index x.hour else 0).sum=JW d c' r h:=fun c'=>by
  induction c' with
  |nil=>intro _;exact Di fun x _=>by split <;>rfl
  |cons a c' ih=>
   intro hex;have e1:∀ x:Order,(if qx d r h x=true then wx (a::c') x.index x.hour else 0)=(if qx d r h x=true then(if oP x.index x.hour=so a then a.litres else 0)else 0)+(if qx d r h x=true then wx c' x.index x.hour else 0):=fun x=>by
    split
    rfl;rfl
   rw[show(fun x:Order=>if qx d r h x=true then wx (a::c') x.index x.hour else 0)=fun x=>(if qx d r h x=true then(if oP x.index x.hour=so a then a.litres else 0)else 0)+(if qx d r h x=true then wx c' x.index x.hour else 0)from funext e1,Md,ih fun b hb=>hex b (aiz _ hb)];obtain⟨z,hz,z1,z2⟩:=hex a ai6;rw[Me hk hz fun x hx hn=>by
    split
    rw[if_neg fun q=>hn ?_];unfold oP so at q;simp only[CertifyPlace.mk.injEq]at q;exact⟨by omega,by omega,by rw[ho.out x hx,ho.out z hz]⟩;rfl]
   have e2:oP a.farm a.hour=so a:=rfl;rw[Vd (ho.out z hz),z1,z2,if_pos e2];unfold JW mF;grind [tot]
 refine key c fun a ha=>?_;have:=GM hl ha;obtain⟨z,hz,z1,z2⟩:=ho.all a.farm a.hour (by
  show iu (oP a.farm a.hour) c≠0;have e:oP a.farm a.hour=so a:=rfl;rw[e];omega)
 grind
theorem Ve {c x:List Claim}{l:List Order}(hM:Made d c l)(hA:Askd d x)(hw:∀ r h,JW d x r h<=JW d c r h)(hlen:(an x).length<=3072):∃ l',Srv d x l':=by
 have hS:=Vc hM;obtain⟨hAc,⟨gs,hP,rfl⟩,hL⟩:=hM;have ho:=hAc.outs;have hox:=hA.outs;have hNx:=hA.nar;have hl1:∀ {c:List Claim},aK d c=0->∀ a∈c,1<=a.litres:=fun h a ha=>((Et h).2 a ha).1;have hgate:∀ y∈gs,y.outlet=false:=fun y hy=>(hP.fin.gate y hy).out;have hkeys:(an x++gs).Pairwise fun x y=>¬K x y:=by
  rw[ajq];refine⟨hNx.good.keys,hP.fin.uniq.imp fun {x y} q k=>q ⟨k.2.1,k.1⟩,fun a ha b hb k=>?_⟩;have:=k.2.2;rw[hox.out a ha,hgate b hb]at this;cases this
 have hperm:=tb (an x++gs);have hpermc:=tb (an c++gs);have hgl:gs.length<=1024:=by
  have h1:=hP.fin.len;have h2:=hAc.wide;grind
 have hone:∀ z∈srt aA (an x++gs),Order1 d z:=fun z hz=>by
  rcases aix.1 (hperm.mem_iff.1 hz)with q|q;exact hNx.good.one z q;exact hP.good.one z (hpermc.mem_iff.2 (ajd _ q))
 have hG:Good d (srt aA (an x++gs)):=⟨hP.good.chk,by rw[hperm.length_eq,aiK];omega,hone,US hkeys⟩;have gts:∀ p:Order->Bool,(∀ z:Order,z.outlet=true->p z=false)->d4 p (srt aA (an x++gs))=d4 p (srt aA (an c++gs)):=fun p hp=>by
  rw[uk hperm,uk hpermc,va,va,sn fun z hz=>hp z (hox.out z hz),sn fun z hz=>hp z (ho.out z hz)]
 have hdrw:∀ r h,drw d (srt aA (an x++gs)) r h<=drw d (srt aA (an c++gs)) r h:=fun r h=>by
  unfold drw;rw[uk hperm,uk hpermc,va,va,IM hox (hl1 hA.chk) hNx.good.keys,IM ho (hl1 hAc.chk) hAc.nar.good.keys];grind
 have hgl':∀ r h,J1 (srt aA (an x++gs)) r h=J1 (srt aA (an c++gs)) r h:=fun r h=>gts _ fun z hz=>by grind [gP]
 refine⟨_,⟨hG,fun z hz hzo=>?_,fun r h r0 h1=>?_⟩,hA.wide,⟨fun t i ht hi=>?_,fun t i ht hi=>?_,?_⟩,fun f t=>?_⟩;rcases aix.1 (hperm.mem_iff.1 hz)with q|q;rw[hox.out z q]at hzo;cases hzo;exact hS.kp.sip z (hpermc.mem_iff.2 (ajd _ q)) hzo;obtain⟨w,e1,e2⟩:=hS.kp.kept r h r0 (by grind);grind
 rw[gts _ fun z hz=>by grind [gu]];exact hL.cap t i ht hi;rw[gts _ fun z hz=>by grind [gu]];exact hL.bank t i ht hi;rw[gts _ fun z hz=>by grind [g0P]];exact hL.tank;by_cases h0:wx x f t=0
 rw[h0];exact J3 fun z hz=>by have:=(hG.one z hz).litres1;omega
 obtain⟨z,hz,rfl,rfl⟩:=hox.all f t h0;rw[PZ hG.keys (hperm.mem_iff.2 (ajg _ hz)) (hox.out z hz),(hox.lit z hz).1];omega
end
def sp (a0:District)(a1:List Claim):Bool:=letI q0:=(a0.reaches.length:Int);letI q1:=(a0.farms.length:Int);(bif((((((((decide (q0 > 8))&&(decide (q0<=64))) ||(decide (q0 > 100))) ||((decide (q1 > 8))&&(decide (q1<=600)))) ||(decide (q1 > 700))) ||(decide ((a0.rights.length:Int) > 300))) ||(decide ((a0.duties.length:Int) > 300))) ||(decide ((a0.crops.length:Int) > 100)))then false else(((decide (a0.hours<=30)) ||(decide (a0.hours > 1024)))&&(decide ((a1.length:Int)<=60))))
@[go_sem] def DL:List SV->Option Con:=(pD .district fun a0=>(pR .claim fun a1=>(pE (.det True (.v (.bool (sp a0 a1)))))))
theorem Ka:FnOk Tryz.prog 36 DL:=by
 have hG:ConsOk Tryz.prog (mkG [] []):=av cg0 cg0;refine ax [.o] mixed am hG (fn:=Tryz.f36) (c:=aa Tryz.f36) kr kr kr kr (a7 fun a0=>(bB fun a1=>(aj (fun hp=>?_))));dsimp only[aw]at hp;refine⟨nbl rfl,L0,ag _,?_⟩;unfold aa Tryz.f36;try unfold sp
 exact zq1
def f5 (d:District)(c:List Claim)(j:List Judgement):Bool:=letI q0:=c7 d c j;letI q1:=bp d (q0.1);letI q2:=bp d c;(bif(!sj)then false else(bif((!(oO d c j)) ||(!(sp d c)))then true else(bif(((q0.2 !=0) ||(q2.2.2 !=0)) ||(!q2.2.1))then true else((q1.2.2 !=0) ||q1.2.1))))
def fv (d:District)(c:List Claim)(j:List Judgement):Prop:=letI q0:=c7 d c j;letI q1:=bp d c;((rt)/\((!sj)=false->(((!(oO d c j)) ||(!(sp d c)))=false->((dS d c j)/\((lL d c)/\((((q0.2 !=0) ||(q1.2.2 !=0)) ||(!q1.2.1))=false->(lL d (q0.1))))))))
@[go_sem] def lM:List SV->Option Con:=(pD .district fun d=>(pR .claim fun c=>(pR .judgement fun j=>(pE (.det (fv d c j) (.v (.bool (f5 d c j))))))))
theorem wy:FnOk Tryz.prog 9 lM:=by
 have hG:ConsOk Tryz.prog (mkG [(10,Cj),(11,fun l=>Dz (bD [.st .district,.sl .claim,.sl .judgement] l)),(36,fun l=>DL (bD [.st .district,.sl .claim] l)),(37,fun l=>xq (bD [.st .district,.sl .claim] l))] [(12,Uy (fun l=>pb (bD [.st .district,.sl .claim,.sl .judgement] l)))]):=av (cgc Hj (cgc (JB.norm [.st .district,.sl .claim,.sl .judgement]) (cgc (Ka.norm [.st .district,.sl .claim]) (cgc (Cp.norm [.st .district,.sl .claim]) cg0)))) (cgc (FnOk.eat (sV.norm [.st .district,.sl .claim,.sl .judgement])) cg0);refine ax [.o] mixed am hG (fn:=Tryz.f9) (c:=aa Tryz.f9) kr kr kr kr (a7 fun d=>(bB fun c=>(bB fun j=>(aj (fun hp=>?_)))));dsimp only[aw]at hp;unfold fv at hp;refine⟨nbl rfl,L0,ag _,?_⟩
 ·unfold aa Tryz.f9;try unfold f5
  simp only[go_sem,Nat.reduceBEq,Nat.reduceLeDiff,Nat.reduceLT,decide_true,Nat.reduceAdd,Nat.reduceSub,Nat.reduceMul,Int.reduceLE,Int.reduceLT,Int.reduceToNat,Int.reduceNeg,reduceCtorEq];all_goals (repeat' (first|with_reducible refine And.intro ?_ ?_|with_reducible intro _))
  all_goals (try simp only[B2]at *)
  all_goals exact cl
theorem afF {d:District}{c:List Claim}(h:sp d c=true)(hr:Right1 d)(hw:(d.reaches.length:Int)*d.hours<=1024):d.farms.length<=8/\d.hours<=30:=by
 unfold sp at h;rw[ai4]at h;split at h
 cases h;rename_i hn;simp only[aiV,aim,decide_eq_true_eq,not_or]at hn h;have h1:=hr.farms;have h2:=hr.one;have h3:=hr.hours1;have:d.hours<=(d.reaches.length:Int)*d.hours:=by
  have:=aiG (a:=1) (b:=(d.reaches.length:Int)) (c:=d.hours) (by omega) (by omega);omega
 omega
theorem Vf {d:District}{x:List Claim}(hA:Askd d x)(hf:d.farms.length<=8)(hh:d.hours<=30):(an x).length<=3072:=by
 have hN:=hA.nar;have ho:=hA.outs;have key:=zl 240 ((an x).map fun z=>(z.index*30+z.hour).toNat) (by
  rw[List.Nodup,ajG];refine List.Pairwise.imp_of_mem (fun {a b} ha hb hk e=>hk ?_) hN.good.keys;have a1:=hN.good.one a ha;have b1:=hN.good.one b hb;have:=a1.hour0;have:=a1.hour;have:=a1.index0;have:=b1.hour0;have:=b1.hour;have:=b1.index0;exact⟨by omega,by omega,by rw[ho.out a ha,ho.out b hb]⟩) (fun n hn=>by
  obtain⟨a,ha,rfl⟩:=aki.1 hn;have a1:=hN.good.one a ha;have:=a1.hour0;have:=a1.hour;have:=a1.index0;have:=a1.farm (ho.out a ha);omega)
 grind
theorem GN (d:District)(c:List Claim)(j:List Judgement)(hj:JR j):fv d c j/\f5 d c j=true:=by
 unfold fv f5;rw[aaT];simp only[aiP,cond_false];cases h1:oO d c j with
 |false=>exact⟨⟨Gt,fun _ h=>by simp at h⟩,by simp⟩
 |true=>
 cases h2:sp d c with
 |false=>exact⟨⟨Gt,fun _ h=>by simp at h⟩,by simp⟩
 |true=>
 obtain⟨f1,f2⟩:=YQ h1 hj;obtain⟨⟨p1,_⟩,e1,_⟩:=L2 (d:=d) (c:=c) hj f1 f2;refine⟨⟨Gt,fun _ _=>⟨p1,PY d c,fun _=>PY d _⟩⟩,?_⟩;simp only[aiP,Bool.or_self,cond_false];rw[e1];cases hg:((((zZ d c j).2 !=0) ||((bp d c).2.2 !=0)) ||(!(bp d c).2.1))with
 |true=>rfl
 |false=>
  simp only[ai8,bne_eq_false_iff_eq,akd]at hg;obtain⟨⟨g1,g2⟩,g3⟩:=hg;have hM:=Va d c g2 g3;rw[cond_false];by_cases hA:Askd d (zZ d c j).1
  obtain⟨⟨k1,_⟩,_⟩:=UB g1;have hr:=NI (by rw[<-xQ d j hj];exact k1);obtain⟨q1,q2⟩:=afF h2 hA.nar.good.right hA.wide;obtain⟨l',hS⟩:=Ve hM hA (Ri hj h1 g1 hr) (Vf hA q1 q2);rw[(Rx hS hA.chk).2.1,ak_]
  ·rcases Bf d (zZ d c j).1 with⟨_,q,e⟩ | ⟨q,_⟩ | ⟨q,_⟩ | ⟨q,_⟩ | ⟨q,_⟩;grind [bp]
   all_goals exact absurd q hA
theorem NS (d:District)(c:List Claim)(j:List Judgement)(hj:JR j):fv d c j:=(GN d c j hj).1
theorem NT (d:District)(c:List Claim)(j:List Judgement)(hj:JR j):f5 d c j=true:=(GN d c j hj).2
end Go.Sx
end
section
namespace Go.Sx
open Go.Deep Go.RowKit
section
variable {F:Nat->Prop}{own:Own}{w:World}
def RC (F:Nat->Prop)(own:Own)(w:World)(ks:List Kd)(cs:List Value):Prop:=
 ∃ l:List SV,wz ks l=true/\l.length=cs.length/\∀ (j:Nat) (s:SV) (v:Value),l[j]? =some s->cs[j]? =some v->Rel F own w s v
theorem Mf:∀ {a b:List Kd} {l m:List SV},wz a l=true->wz b m=true->wz (a++b) (l++m)=true
 | [],b,l,m,h1,h2=>by grind [wK]
 |k::a,b,l,m,h1,h2=>by
  obtain⟨x,r,rfl,e1,e2⟩:=rP h1;simp only[aiF,wz,e1,Mf e2 h2,Bool.and_self]
theorem RC.nil:RC F own w [] []:=⟨[],rfl,rfl,fun j s v h=>by cases h⟩
theorem RC.app {a b:List Kd}{c d:List Value}(h1:RC F own w a c)(h2:RC F own w b d):RC F own w (a++b) (c++d):=by
 obtain⟨l,f1,n1,r1⟩:=h1;obtain⟨m,f2,n2,r2⟩:=h2;refine⟨l++m,Mf f1 f2,by simp[n1,n2],fun j s v hs hv=>?_⟩;grind
theorem RC.one {k:Kd}{s:SV}{v:Value}(h1:fit k s=true)(h2:Rel F own w s v):RC F own w [k] [v]:=
 ⟨[s],by simp[wz,h1],rfl,fun j s' v' hs hv=>by
  grind⟩
end
def aa2:Kd->Kd->Bool
 | .s,.s=>true| .b,.b=>true| .n a,.n b=>decide (a=b)| .r a,.r b=>decide (a=b)| .m a c,.m b d=>decide (a=b)&&decide (c=d)|_,_=>false
theorem XU:∀ {a b:Kd},aa2 a b=true->a=b:=by
 intro a b h;cases a <;>cases b <;>simp_all [aa2]
def Vg:List Kd->List Kd->Bool
 | [],[] =>true|a::l,b::m=>aa2 a b&&Vg l m|_,_=>false
theorem P3:∀ {a b:List Kd},Vg a b=true->a=b
 | [],[],_=>rfl
 |a::l,b::m,h=>by
  simp only[Vg,aim]at h;rw[XU h.1,P3 h.2]
def GO (P:Program)(g:TypeId->Option (List Kd)):List Field->Nat->Nat->Option (List Kd)
 | [],off,tot=>bif Nat.beq off tot then some []else none
 |f::r,off,tot=>match g f.type with
  |some a=>bif Nat.beq f.offset off&&Nat.beq a.length (P.cellsOf f.type)then(GO P g r (off+a.length) tot).map (a++ ·)else none|none=>none
def NU (a:List Kd):Nat->List Kd
 |0=>[]|n+1=>a++NU a n
def GP (P:Program):Nat->TypeId->Option (List Kd)
 |0,_=>none
 |n+1,t=>match P.underlying t with
  |some .bool=>some [.b]|some (.int k) =>some [.n k]|some .string=>some [.s]
  |some (.slice e) =>match Kj P e,GP P n e with
   |some k,some ks=>bif Vg ks (eO k)&&Nat.beq (P.cellsOf e) (ae k)&&Nat.ble 1 (ae k)then some [.r k]else none|_,_=>none
  |some (.struct fs) =>GO P (GP P n) fs.toList 0 (P.cellsOf t)
  |some (.array m e) =>match GP P n e with
   |some a=>bif Nat.beq a.length (P.cellsOf e)&&Nat.beq (P.cellsOf t) (m*a.length)then some (NU a m)else none|none=>none
  |_=>none
section
variable {H:Type}{enc:TypeId×Value->H}{P:Program}{F:Nat->Prop}{own:Own}{w:World}{base:Nat}{spare:Nat->Bool}{held:Bool}{S:DataW H->Prop}
theorem P4 {g:TypeId->Option (List Kd)}(hg:∀ t ks,g t=some ks->∀ (fuel:Nat) (cs:List Value) (x:DataW H×List MemPlace),DataW.trod enc P w base spare held fuel t cs=some x->S x.1->RC F own w ks cs)
  (fuel:Nat) (cs:List Value):∀ (fs:List Field) (off:Nat) (ks:List Kd),GO P g fs off cs.length=some ks->(∀ f∈fs,∃ x,DataW.trod enc P w base spare held fuel f.type ((cs.drop f.offset).take (P.cellsOf f.type))=some x/\S x.1)->RC F own w ks (cs.drop off)
 | [],off,ks,h,_=>by
  unfold GO at h;cases hb:Nat.beq off cs.length with
  |false=>grind
  |true=>
   rw[hb]at h;have:off=cs.length:=ain hb;subst this;cases h;rw[List.drop_length];exact RC.nil
 |f::r,off,ks,h,hx=>by
  unfold GO at h;cases ha:g f.type with
  |none=>grind
  |some a=>
   rw[ha]at h;dsimp only at h;cases hb:Nat.beq f.offset off&&Nat.beq a.length (P.cellsOf f.type)with
   |false=>grind
   |true=>
    rw[hb]at h;simp only[cond_true,ajl]at h;obtain⟨ks2,h2,rfl⟩:=h;rw[aim]at hb;have e1:f.offset=off:=ain hb.1;have e2:a.length=P.cellsOf f.type:=ain hb.2;obtain⟨x,hx1,hs1⟩:=hx f (by simp);have h3:=hg _ _ ha _ _ _ hx1 hs1;have h4:=P4 hg fuel cs r (off+a.length) ks2 h2 fun f hf=>hx f (by simp[hf]);have:=h3.app h4;grind [List.drop_drop,List.take_append_drop]
theorem P5 {e:TypeId}{a:List Kd}(ha:∀ (fuel:Nat) (cs:List Value) (x:DataW H×List MemPlace),DataW.trod enc P w base spare held fuel e cs=some x->S x.1->RC F own w a cs)
  (fuel:Nat):∀ (m:Nat) (cs:List Value),cs.length=m*a.length->(∀ i,i<m->∃ x,DataW.trod enc P w base spare held fuel e ((cs.drop (i*a.length)).take a.length)=some x/\S x.1)->RC F own w (NU a m) cs
 |0,cs,h,_=>by
  have:cs=[]:=by simpa using h
  subst this;exact RC.nil
 |m+1,cs,h,hx=>by
  obtain⟨x,hx1,hs1⟩:=hx 0 (by omega);rw[Nat.zero_mul,akP]at hx1;have h3:=ha _ _ _ hx1 hs1;have h4:=P5 ha fuel m (cs.drop a.length) (by grind) fun i hi=>by
   grind [List.drop_drop]
  have:=h3.app h4
  rwa[List.take_append_drop]at this
structure Small (S:DataW H->Prop):Prop where
 agg:∀ l,S (.agg l)->∀ d∈l,S d
 slice:∀ l m,S (.slice l m)->l.length<=aI/\∀ d∈l,S d
theorem sq (hS:Small S)(hown:∀ b,¬cm F own b):∀ (n:Nat) (t:TypeId) (ks:List Kd),GP P n t=some ks->∀ (fuel:Nat) (cs:List Value) (x:DataW H×List MemPlace),DataW.trod enc P w base spare held fuel t cs=some x->S x.1->RC F own w ks cs
 |0,_,_,h,_,_,_,_,_=>by cases h
 |n+1,t,ks,h,fuel,cs,x,hx,hs=>by
  unfold GP at h;split at h
  rename_i ht;cases h;obtain⟨b,rfl,rfl⟩:=DataW.trod_bool ht hx;exact RC.one (s:=.v (.bool b)) rfl (.v _);rename_i k ht;cases h;obtain⟨m,rfl,rfl,_⟩:=DataW.trod_int ht hx;exact RC.one (s:=.v (.int k m)) (by simp[fit]) (.v _);rename_i ht;cases h;obtain⟨b,rfl,rfl,_⟩:=DataW.trod_string ht hx;exact RC.one (s:=.v (.string b)) rfl (.v _)
  ·rename_i e ht;split at h
   ·rename_i k ks2 hk hks;cases hb:Vg ks2 (eO k)&&Nat.beq (P.cellsOf e) (ae k)&&Nat.ble 1 (ae k)with
    |false=>rw[hb]at h;cases h
    |true=>
     rw[hb]at h;cases h;simp only[aim]at hb;have e1:=P3 hb.1.1;have e2:P.cellsOf e=ae k:=ain hb.1.2;have e3:1<=ae k:=nbl hb.2;subst e1;rcases open_slice ht hx with⟨rfl,rfl⟩ | ⟨a,len,cap,m,f2,D,Pl,rfl,hb1,hl,hm,hmm,rfl,hel⟩;exact RC.one (s:=.rs k []) (by simp[fit]) .rs0
     ·have hlm:len<=m:=by subst hmm;split <;>omega
      obtain⟨hs1,hs2⟩:=hS.slice _ _ hs;simp only[ajn,akk]at hs1;have helt:∀ i,i<len->∃ cs',cs'.length=ae k/\(∀ j v,cs'[j]? =some v->w.cell? ((a.add (i*ae k)).add j)=some v)/\RC F own w (eO k) cs':=fun i hi=>by
       obtain⟨cs',h1,h2⟩:=hel i (by omega);have h3:=sq hS hown n e (eO k) hks f2 cs' _ h2 (hs2 _ (ajH (akr.2 hi)));unfold World.cells? at h1;split at h1
       refine⟨cs',by rw[mapM_some_length h1,akk,e2],fun j v hj=>?_,h3⟩;have hlt:j<P.cellsOf e:=by
        have:=(aiq.1 hj).1
        rwa[mapM_some_length h1,akk]at this
       have:=mapM_some_get h1 j j (by simp[hlt]);rw[e2]at this;rw[this,hj];cases h1
      by_cases h0:len=0
      subst h0;exact RC.one (s:=.rs k []) (by simp[fit]) .rs0
      ·have hsp:a.spot=none:=by
        obtain⟨cs',h1,h2,_⟩:=helt 0 (by omega);have:=h2 0 (cs'[0]'(by omega)) (by rw[aiv]);rw[Nat.zero_mul]at this;simp only[Addr.add,if_true]at this;unfold World.cell? at this;split at this
        cases hsp:a.spot with
        |none=>rfl|some q=>rw[hsp]at this;simp at this
        cases this
       obtain⟨ab,ao,asp⟩:=a;dsimp only at hsp;subst hsp
       haveI:Inhabited k.T:=⟨gz k⟩
       obtain⟨X,hX⟩:=choose_lt (p:=fun i (x:k.T) =>∀ (j:Nat) (s:SV),(cellsOf k x)[j]? =some s->∃ v,w.cell? ⟨ab,ao+i*ae k+j,none⟩=some v/\Rel F own w s v) (n:=len) fun i hi=>by
        obtain⟨cs',h1,h2,l,h3,h4,h5⟩:=helt i hi;refine⟨mkE k l,fun j s hj=>?_⟩;rw[sN (k:=k) (l:=l) (x:=mkE k l) (by unfold wA;rw[h3];rfl)]at hj;have hlt:j<cs'.length:=by
         have:=(aiq.1 hj).1;omega
        refine⟨cs'[j],?_,h5 j s _ hj (aiv hlt)⟩;have:=h2 j cs'[j] (aiv hlt);have hadd:∀ p q,((⟨ab,ao,none⟩:Addr).add p).add q=⟨ab,ao+p+q,none⟩:=fun p q=>by
         unfold Addr.add;by_cases hp:p=0 <;>by_cases hq:q=0 <;>simp[hp,hq]
        rwa[hadd]at this
       have hL:((List.range len).map X).length=len:=by simp
       refine RC.one (s:=.rs k ((List.range len).map X)) (by simp[fit]) ?_;have hget:∀ (i:Nat) (x:k.T),((List.range len).map X)[i]? =some x->i<len/\x=X i:=fun i x hi=>by
        obtain⟨h1,h2⟩:=aiq.1 hi;rw[hL]at h1;simp only[List.getElem_map,List.getElem_range]at h2;subst h2;exact⟨h1,rfl⟩
       have:=Rel.rs (F:=F) (own:=own) (w:=w) (k:=k) (l:=(List.range len).map X) (b:=ab) (o:=ao) (cap:=cap) (fun i j=>(w.cell? ⟨ab,ao+i*ae k+j,none⟩).getD undef) (by rw[hL];exact hl) (by rw[hL];exact hs1)
        (fun i x hi j s hj=>by
         obtain⟨h1,rfl⟩:=hget i x hi;obtain⟨v,h2,_⟩:=hX i h1 j s hj;exact⟨hown _,by rw[h2];rfl⟩)
        (fun i x hi j s hj=>by
         obtain⟨h1,rfl⟩:=hget i x hi;obtain⟨v,h2,h3⟩:=hX i h1 j s hj;rw[h2];exact h3)
       rwa[hL]at this
   cases h
  rename_i fs ht;obtain⟨xs,m,rfl,rfl,hl,hlen,hf⟩:=DataW.trod_struct ht hx;rw[<-hl]at h;have:=P4 (sq hS hown n) m cs fs.toList 0 ks h fun f hfm=>by
   obtain⟨i,hi,rfl⟩:=aiN hfm;have hi':i<fs.size:=by simpa using hi
   have h1:=hf i fs[i] (by simp[hi']);rw[aiv (by omega)]at h1;refine⟨_,by simpa using h1,hS.agg _ hs _ (ajH (ai_ _))⟩
  simpa using this;rename_i m e ht;split at h
  rename_i a ha;cases hb:Nat.beq a.length (P.cellsOf e)&&Nat.beq (P.cellsOf t) (m*a.length)with
  |false=>rw[hb]at h;cases h
  |true=>
   rw[hb]at h;cases h;rw[aim]at hb;have e1:a.length=P.cellsOf e:=ain hb.1;have e2:P.cellsOf t=m*a.length:=ain hb.2;obtain⟨xs,f2,rfl,rfl,hl,hlen,hf⟩:=DataW.trod_array ht hx;refine P5 (sq hS hown n e a ha) f2 m cs (by rw[hl,e2]) fun i hi=>?_;have h1:=hf i hi;rw[aiv (by omega),<-e1]at h1;exact⟨_,h1,hS.agg _ hs _ (ajH (ai_ _))⟩
  cases h;cases h
end
theorem Vh {H:Type}{enc:TypeId×Value->H}{P:Program}{w:World}{base:Nat}{spare:Nat->Bool}{held:Bool}{F:Nat->Prop}{own:Own}{t e:TypeId}{fs:Array Field}{f:Field}(ht:P.underlying t=some (.slice e))(he:P.underlying e=some (.struct fs))(hf:fs[8]? =some f)(ho:f.offset=8)(hg:P.underlying f.type=some (.int .i64))(hs1:P.cellsOf f.type=1)(hc:P.cellsOf e=9)
  {fuel:Nat} {v:Value} {x:DataW H×List MemPlace} (hx:DataW.trod enc P w base spare held fuel t [v]=some x) (l:List Tag.judgement.T) (hr:Rel F own w (.rs .judgement l) v):∀ y∈(show List Judgement from l),(-9223372036854775808:Int)<=y.of_/\y.of_<9223372036854775808:=by
 intro y hy;rcases open_slice ht hx with⟨h0,_⟩ | ⟨a,len,cap,m,f2,D,Pl,h0,hb1,hl,hm,hmm,_,hel⟩;simp only[aje,and_true]at h0;subst h0;cases hr;cases hy;simp only[aje,and_true]at h0;subst h0;cases hr with
 |rs0=>cases hy
 | @rs _ _ b o _ c h1 h2 h3 h4=>
  obtain⟨i,hi,rfl⟩:=aiN hy;have hlm:l.length<=m:=by grind
  obtain⟨cs',g1,g2⟩:=hel i (by grind);obtain⟨xs,m2,rfl,_,hl2,hlen,hfl⟩:=DataW.trod_struct he g2;have h8:=hfl 8 f hf;have hlt:8<fs.size:=(ajj.1 hf).1;have e1:l[i]? =some (l[i]'hi):=aiv hi;have k1:=(h3 i _ e1 8 _ rfl).2;have k2:=h4 i _ e1 8 _ rfl;rw[hc]at g1;unfold World.cells? at g1;split at g1
  have h9:=mapM_some_length g1;have:=mapM_some_get g1 8 8 (by simp);have hadd:((⟨b,o,none⟩:Addr).add (i*9)).add 8=⟨b,o+i*9+8,none⟩:=by
   unfold Addr.add;grind
  rw[hadd]at this;have k1':w.cell? ⟨b,o+i*9+8,none⟩=some (c i 8):=k1;rw[k1']at this;have hcs:(cs'.drop 8).take 1=[c i 8]:=by
   rw[akk]at h9;have hlt8:8<cs'.length:=by omega
   have hd:cs'.drop 8=cs'[8]::cs'.drop 9:=akt hlt8;grind
  rw[ho,hs1,hcs,aiv (by omega)]at h8;obtain⟨n,hn,_,hw⟩:=DataW.trod_int hg h8;simp only[aje,and_true]at hn;rw[bR k2]at hn;simp only[akJ,true_and]at hn;grind [Lit.wf,IntKind.min,IntKind.max,IntKind.signed,IntKind.bits]
  cases g1
end Go.Sx
end
section
namespace Go.Sx
open Go.Proofs
section
variable {F:Nat->Prop}{own:Own}{w:World}
theorem XV {k:Tag}{cs:Array Value}(h:RC F own w (eO k) cs.toList):∃ x:k.T,Rel F own w (.agg (cellsOf k x)) (.agg cs):=by
 obtain⟨l,h3,h4,h5⟩:=h;refine⟨mkE k l,?_⟩;rw[sN (k:=k) (l:=l) (x:=mkE k l) (by unfold wA;rw[h3];rfl)];refine .agg (by simpa using h4.symm) fun j s hj=>?_;have hlt:j<cs.size:=by
  have:=(aiq.1 hj).1;simpa[h4]using this
 exact h5 j s _ hj (by simp[Array.getD,hlt])
theorem Vi {k:Tag}{v:Value}(h:RC F own w [.r k] [v]):∃ l:List k.T,Rel F own w (.rs k l) v:=by
 obtain⟨l,h3,h4,h5⟩:=h;obtain⟨x,r,rfl,h6,h7⟩:=rP h3;have h8:=h5 0 x v rfl rfl;cases x with
 |rs k' l'=>
  have:k=k':=by
   simp only[fit]at h6;exact wI h6
  subst this;exact⟨l',h8⟩
 |_=>simp[fit]at h6
end
end Go.Sx
end
section
namespace Go.Sx
open Go.ChangeShapes Go.RowKit Go.WideShapes
section
variable {H:Type}{enc:TypeId×Value->H}{P:Program}
def XW (P:Program):List TypeId->Bool
 | [] =>true|t::r=>P.readableRec t&&Nat.blt t P.types.size&&XW P r
theorem IN (hl:laidOutB P=true){W W':World}(hg:Below W.heap.size W W'):∀ {ts:List TypeId} {vs:List Value} {ds:List (DataW H)} {ps:List MemPlace},XW P ts=true->
  DataW.TrodAll enc P W 0 (fun _=>true) true ts vs ds ps->(∀ x∈ps,x.block<W.heap.size)->DataW.TrodAll enc P W' 0 (fun b=>decide (b<W.heap.size)) true ts vs ds ps
 | [],vs,ds,ps,_,h,_=>by
  obtain⟨rfl,rfl,rfl⟩:=trodAll_nil h;exact trodAll_mk0
 |t::ts,vs,ds,ps,hk,h,hlt=>by
  unfold XW at hk;rw[aim,aim]at hk;obtain⟨v,vs',d,ds',p,q,rfl,rfl,rfl,h1,h2⟩:=trodAll_cons h;refine trodAll_cons_mk (WideElems.Trod_stays hl hk.1.1 (by simpa[Nat.blt_eq]using hk.1.2) h1 (fun x hx=>hg.same (hlt x (ajg _ hx))) (fun x hx=>by simpa using hlt x (ajg _ hx))) ?_;exact IN hl hg hk.2 h2 fun x hx=>hlt x (ajd _ hx)
theorem Vj (hl:laidOutB P=true){f:Func}{s:ChangeSpec}{W W':World}{args:Array Value}{ds gs:List (DataW H)}{before:List MemPlace}{t:TypeId}
  (hk:XW P f.params.toList=true) (hW:DataW.Whole enc P f.params.toList s.vars false W args.toList ds gs before)
  (hr:f.resultTypes= #[t]) (ht:P.underlying t=some .bool) (hv:s.vars=[]) (h1:(s.fn H (ds++gs)).results=[.lit (.bool true)]) (h2:(s.fn H (ds++gs)).args=ds) (h3:(s.fn H (ds++gs)).vars=[])
  (hg:Below W.heap.size W W'):s.post enc P f false true false false W args (.bool true) W':=by
 have hlt:=hW.lt;have hW0:=hW;obtain⟨p,q,hA,hV,rfl,_,_⟩:=hW;rw[hv]at hV;obtain⟨rfl,rfl⟩:=trodVars_none hV;refine⟨ds,[],p++[],[],p,[],hW0,?_,?_,?_,?_,fun h=>by cases h⟩;rw[h1,hr];exact trodAll_cons_mk (shut_bool ht _) trodAll_mk0;rw[h2];exact IN hl hg hk hA fun x hx=>hlt x (by simpa using hx);rw[h3,hv];rfl;exact World.keptBut_mono (fun x hx=>⟨hx,.inr (.inl (by simpa using hx))⟩) (hg.frame (· ∈p++[]))
end
end Go.Sx
end
section
namespace Go.Proofs.YtnanafpgfihjfaaGreat.bulks
theorem one_le {H:Type}(d:DataW H):1<=Rows.uptoBulk d:=by
 cases d with
 |lit l=>cases l <;>simp[Rows.uptoBulk]|nil=>simp[Rows.uptoBulk]|ptr d=>simp[Rows.uptoBulk]|slice tG spare=>simp[Rows.uptoBulk]|agg parts=>simp[Rows.uptoBulk]|iface t d=>simp[Rows.uptoBulk]|map entries=>simp[Rows.uptoBulk]|held h=>simp[Rows.uptoBulk]
theorem part_le {H:Type}{d:DataW H}{l:List (DataW H)}(h:d∈l):Rows.uptoBulk d<=Rows.uptoBulkAll l:=by
 induction l with
 |nil=>cases h
 |cons x r ih=>
  simp only[Rows.uptoBulkAll];cases List.mem_cons.1 h with
  |inl e=>subst e;omega|inr e=>have:=ih e;omega
theorem append {H:Type}(l r:List (DataW H)):Rows.uptoBulkAll (l++r)=Rows.uptoBulkAll l+Rows.uptoBulkAll r:=by
 induction l with
 |nil=>simp[Rows.uptoBulkAll]|cons x l ih=>simp only[List.cons_append,Rows.uptoBulkAll,ih];omega
theorem length_le {H:Type}(l:List (DataW H)):l.length<=Rows.uptoBulkAll l:=by
 induction l with
 |nil=>simp[Rows.uptoBulkAll]|cons x r ih=>have:=one_le x;simp only[Rows.uptoBulkAll,List.length_cons];omega
theorem slice_le {H:Type}(tG spare:List (DataW H)):tG.length+spare.length+1<=Rows.uptoBulk (.slice tG spare):=by
 have h1:=length_le tG;have h2:=length_le spare;simp only[Rows.uptoBulk];omega
theorem slice_elems {H:Type}(tG spare:List (DataW H)):Rows.uptoBulkAll tG+1<=Rows.uptoBulk (.slice tG spare):=by
 simp only[Rows.uptoBulk];omega
theorem bound {H:Type}{l:List (DataW H)}(hk:Rows.uptoSmall H l=true):Rows.uptoBulkAll l<=1048576:=by
 simpa[Rows.uptoSmall]using hk
theorem room {n b:Nat}(hn:n<=2097152)(hb:b<=4096):(n+n / 4+192)*b<=281474976710656:=by
 have h:(n+n / 4+192)*b<=2621632*4096:=Nat.mul_le_mul (by omega) hb;omega
end Go.Proofs.YtnanafpgfihjfaaGreat.bulks
end
