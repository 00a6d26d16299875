/- Part of the proof that the law TimetableServedSpec returns true and leaves its arguments as they were, for all arguments of bulk at most 1048576 (the Upto form). -/
import Derived.Test.YtagjakphhkfofaaGreatC709
import Derived.Test.YtagjakphhkfofaaGreatC707
import Derived.Test.YtagjakphhkfofaaGreatC708
import Derived.Test.YtagjakphhkfofaaGreatC701
import Derived.Test.YtagjakphhkfofaaGreatC706
import Derived.Shelf.SlSortCmp.NoneTotal
import Derived.Ground.SlsfProg
import Derived.Test.YtagjakphhkfofaaGreatProg
set_option linter.all false
set_option maxHeartbeats 4000000
section
namespace Go.Sx
open Go.Proofs
set_option maxRecDepth 100000
set_option linter.unusedSimpArgs false
theorem rW {p:Prop}(h:p:=by(first|done|(repeat' (first|with_reducible refine And.intro ?_ ?_|((with_reducible show _≠_);first|assumption|omega|(simp_all [aX,bf];done) |grind) |with_reducible intro _)) <;>(first|done|exact Empty.elim ‹Empty› |assumption|rfl|omega|decide|exact fk [0,1,2,3] |exact czl|(simp only[*,cond_true,cond_false,Bool.not_true,Bool.not_false,go_sem,Nat.reduceBEq,Nat.reduceLeDiff,Nat.reduceLT,decide_true,Nat.reduceAdd,Nat.reduceSub,Nat.reduceMul,Int.reduceLE,Int.reduceLT,Int.reduceToNat,Int.reduceNeg,reduceCtorEq];(repeat' (first|with_reducible refine And.intro ?_ ?_|((with_reducible show _≠_);first|assumption|omega|(simp_all [aX,bf];done) |grind) |with_reducible intro _)) <;>(first|done|assumption|rfl|omega|decide|exact fk [0,1,2,3] |(simp_all [aX,bf];done))) |(simp_all [okI,aX,bf];done) |(simp_all [aX,bf];(first|done|exact fk2 [0,1,2,3])) |exact fk2 [0,1,2,3]))):p:=h
@[go_sem] def a8 (out:List Order)(d:District)(z_0:Fault)(s_0:Int×Int×Int×Int×Int):Empty⊕(Int×Int×Int×Int×Int):=(bif(((s_0.1==0)&&((s_0.2.1==0)&&((s_0.2.2.1==0)&&((s_0.2.2.2.1==0)&&(s_0.2.2.2.2==0))))) ||(decide ((bE ([(aP z_0.hour s_0.2.1),(aP s_0.2.2.1 z_0.index)])) <0)))then .inr (z_0.kind,z_0.hour,z_0.index,z_0.litres,z_0.limit)else .inr (s_0.1,s_0.2.1,s_0.2.2.1,s_0.2.2.2.1,s_0.2.2.2.2))
def rX (out:List Order)(d:District)(z_0:Fault)(s_0:Int×Int×Int×Int×Int):Prop:=True
def dG (out:List Order)(d:District):Fault:=(match cI (a8 out d) (aS out d) (0,0,0,0,0)with| .inl x=>x.elim| .inr s_0=>({ kind:=s_0.1,hour:=s_0.2.1,index:=s_0.2.2.1,litres:=s_0.2.2.2.1,limit:=s_0.2.2.2.2}:Fault))
def kA (out:List Order)(d:District):Prop:=(fz out d ((aS out d).map ei))
@[go_sem] noncomputable def kB:List SV→Option Con:=(pFn 98 (pXR .order fun out=>(pX .district fun d=>(pE ((pE (.det (kA out d) (.agg (cellsOf .fault (dG out d))))))))))
theorem oi:FnOk Tryz.prog 55 kB:=by
 have hG:ConsOk Tryz.prog (mkG [(69,fun l=>fL (cn [.sl .int] l)),(70,c9)] []):=aC (cgc (gD.norm [.sl .int]) (cgc dI cg0)) cg0
 refine aI [.st .fault] mixed ax hG (fn:=Tryz.f55) (c:=aa Tryz.f55) (by kernel_rfl) (by kernel_rfl) (by kernel_rfl) (by kernel_rfl) (kf (uU fun out=>(t7 fun d=>(aB ((aB (fun hp=>?_)))))))
 dsimp only[aD]at hp
 unfold kA at hp
 refine⟨Nat.le_of_ble_eq_true rfl,(fun id st=>bif Nat.beq id 0 then some (LC (ρ:=Empty) (σ:=Int×Int×Int×Int×Int) (lk 2 st.t=.ptr 0 0∧lk 4 st.t=.fn 98 [] [.ep [.rs .order out] 0,.ep (cellsOf .district d) 0]∧st.h=[.cells [.v (.int .i64 0),.v (.int .i64 0),.v (.int .i64 0),.v (.int .i64 0),.v (.int .i64 0)]]∧fz out d ((aS out d).map ei)) (cI (a8 out d) (aS out d) (0,0,0,0,0)) (fun x=>x.elim) (fun x=>x.elim) (fun s_0=>⟨[(2,.ptr 0 0)],[.cells [.v (.int .i64 s_0.1),.v (.int .i64 s_0.2.1),.v (.int .i64 s_0.2.2.1),.v (.int .i64 s_0.2.2.2.1),.v (.int .i64 s_0.2.2.2.2)]]⟩))else none),?_,?_⟩
 ·unfold aa Tryz.f55
  simp only[ay,true_and,and_true]
  ·refine pj mixed ax hG (by decide) (by decide) (by kernel_rfl) (by kernel_rfl) fun st lc hC hp=>?_
   simp only[go_sem,Nat.reduceBEq,Option.some.injEq]at hC
   subst hC
   obtain⟨t,h⟩:=st
   dsimp only[LC]at hp
   obtain⟨e0_0,e0_1,rfl,hb0⟩:=hp
   refine⟨98,[.ep [.rs .order out] 0,.ep (cellsOf .district d) 0],Fault,_,_,(aS out d),ei,(a8 out d),(rX out d),_,(0,0,0,0,0),_,_,_,[(2,.ptr 0 0)],(fun s_0=>[.cells [.v (.int .i64 s_0.1),.v (.int .i64 s_0.2.1),.v (.int .i64 s_0.2.2.1),.v (.int .i64 s_0.2.2.2.1),.v (.int .i64 s_0.2.2.2.2)]]),(fun x=>x.elim),[0],?_,rfl,xY _ _ fun _ _ _=>trivial,Nat.le_of_ble_eq_true rfl,?_,sY out d _ hb0,fun z_0 s_0 hq0=>⟨rfl,L0,fun l=>?_,fun l=>?_,?_⟩,fun s_0=>?_,fun y=>?_⟩
   ·simp only[go_sem,e0_0,e0_1]
   ·simp only[go_sem,Nat.reduceBEq,Nat.reduceLeDiff,Nat.reduceLT,decide_true,Nat.reduceAdd,Nat.reduceSub,Nat.reduceMul,Int.reduceLE,Int.reduceLT,Int.reduceToNat,Int.reduceNeg,reduceCtorEq,qr,kc,List.flatMap_cons,List.flatMap_nil,List.nil_append,List.append_nil,List.map_nil,e0_0,e0_1]
    all_goals (first|done|decide|(repeat' (first|refine And.intro ?_ ?_|rfl|decide)))
   ·simp only[ay,and_self,true_and,and_true]
   ·simp only[ay,and_self,true_and,and_true]
   ·skip
    simp only[go_sem,Nat.reduceBEq,Nat.reduceLeDiff,Nat.reduceLT,decide_true,Nat.reduceAdd,Nat.reduceSub,Nat.reduceMul,Int.reduceLE,Int.reduceLT,Int.reduceToNat,Int.reduceNeg,reduceCtorEq,a8,psT,ei,List.cons_append,List.nil_append]
    all_goals exact ij
   ·simp only[go_sem,Nat.reduceBEq,Nat.reduceLeDiff,Nat.reduceLT,decide_true,Nat.reduceAdd,Nat.reduceSub,Nat.reduceMul,Int.reduceLE,Int.reduceLT,Int.reduceToNat,Int.reduceNeg,reduceCtorEq]
    all_goals exact ij
   ·simp only[go_sem,Nat.reduceBEq,Nat.reduceLeDiff,Nat.reduceLT,decide_true,Nat.reduceAdd,Nat.reduceSub,Nat.reduceMul,Int.reduceLE,Int.reduceLT,Int.reduceToNat,Int.reduceNeg,reduceCtorEq]
    all_goals exact ij
 ·unfold aa Tryz.f55
  try unfold dG
  simp only[go_sem,Nat.reduceBEq,Nat.reduceLeDiff,Nat.reduceLT,decide_true,Nat.reduceAdd,Nat.reduceSub,Nat.reduceMul,Int.reduceLE,Int.reduceLT,Int.reduceToNat,Int.reduceNeg,reduceCtorEq]
  all_goals exact cl
@[go_sem] def di (d:District)(c:List Claim)(z_0:Fault)(s_0:Unit):(Int×Int×Int×Int×Int)⊕Unit:=.inl (z_0.kind,z_0.hour,z_0.index,z_0.litres,z_0.limit)
def mz (d:District)(c:List Claim)(z_0:Fault)(s_0:Unit):Prop:=True
def aw (d:District)(c:List Claim):List Order×Fault×Int:=(bif((aj d c).2 !=0)then([],({ kind:=0,hour:=0,index:=0,litres:=0,limit:=0}:Fault),(aj d c).2)else(bif((an d ((aj d c).1)).2.2 !=0)then([],({ kind:=0,hour:=0,index:=0,litres:=0,limit:=0}:Fault),(an d ((aj d c).1)).2.2)else(bif(!(an d ((aj d c).1)).2.1)then([],(dG ((aj d c).1) d),0)else(match cI (di d c) (bK ((an d ((aj d c).1)).1) d) ()with| .inl x_0_0=>([],({ kind:=x_0_0.1,hour:=x_0_0.2.1,index:=x_0_0.2.2.1,litres:=x_0_0.2.2.2.1,limit:=x_0_0.2.2.2.2}:Fault),0) | .inr s_0=>((an d ((aj d c).1)).1,({ kind:=0,hour:=0,index:=0,litres:=0,limit:=0}:Fault),0)))))
def d5 (d:District)(c:List Claim):Prop:=((d4 d c)∧(((aj d c).2 !=0)=false→((kx d ((aj d c).1))∧(((an d ((aj d c).1)).2.2 !=0)=false→(((!(an d ((aj d c).1)).2.1)=true→(kA ((aj d c).1) d))∧((!(an d ((aj d c).1)).2.1)=false→(dO ((an d ((aj d c).1)).1) d ((bK ((an d ((aj d c).1)).1) d).map ei))))))))
@[go_sem] def kC:List SV→Option Con:=(pD .district fun d=>(pR .claim fun c=>(pE (.det (d5 d c) (.tup [.rs .order ((aw d c).1),.agg (cellsOf .fault ((aw d c).2.1)),.v (.int .i64 ((aw d c).2.2))])))))
theorem oj:FnOk Tryz.prog 31 kC:=by
 have hG:ConsOk Tryz.prog (mkG [(33,fun l=>ky (cn [.st .district,.sl .claim] l)),(54,fun l=>oe (cn [.st .district,.sl .order] l)),(55,kB),(56,fun l=>ln (cn [.st .district,.sl .order] l)),(57,fun l=>jM (cn [.st .district,.sl .order] l))] []):=aC (cgc (oh.norm [.st .district,.sl .claim]) (cgc (qA.norm [.st .district,.sl .order]) (cgc oi (cgc (oN.norm [.st .district,.sl .order]) (cgc (m_.norm [.st .district,.sl .order]) cg0))))) cg0
 refine aI [.sl .order,.st .fault,.o] mixed ax hG (fn:=Tryz.f31) (c:=aa Tryz.f31) (by kernel_rfl) (by kernel_rfl) (by kernel_rfl) (by kernel_rfl) (aN fun d=>(cj fun c=>(aB (fun hp=>?_))))
 dsimp only[aD]at hp
 unfold d5 at hp
 refine⟨Nat.le_of_ble_eq_true rfl,(fun id st=>bif Nat.beq id 0 then some (LC (ρ:=Int×Int×Int×Int×Int) (σ:=Unit) (lk 4 st.t=.ptr 1 0∧lk 5 st.t=.ptr 2 0∧lk 6 st.t=.ptr 3 0∧lk 39 st.t=.fn 100 [] [.ep [.rs .order ((an d ((aj d c).1)).1)] 0,.ep (cellsOf .district d) 0]∧st.h=[.cells (cellsOf .district d),.cells [.rs .order ((an d ((aj d c).1)).1)],.cells [.v (.int .i64 0),.v (.int .i64 0),.v (.int .i64 0),.v (.int .i64 0),.v (.int .i64 0)],.cells [.v (.int .i64 ((an d ((aj d c).1)).2.2))]]∧dO ((an d ((aj d c).1)).1) d ((bK ((an d ((aj d c).1)).1) d).map ei)) (cI (di d c) (bK ((an d ((aj d c).1)).1) d) ()) (fun _=>.ret) (fun x_0_0=>⟨[(4,.ptr 1 0),(5,.ptr 2 0),(6,.ptr 3 0)],[.dead,.cells [.v (.slice none 0 0)],.cells [.v (.int .i64 x_0_0.1),.v (.int .i64 x_0_0.2.1),.v (.int .i64 x_0_0.2.2.1),.v (.int .i64 x_0_0.2.2.2.1),.v (.int .i64 x_0_0.2.2.2.2)],.cells [.v (.int .i64 0)]]⟩) (fun s_0=>⟨[(4,.ptr 1 0),(5,.ptr 2 0),(6,.ptr 3 0)],[.dead,.cells [.rs .order ((an d ((aj d c).1)).1)],.cells [.v (.int .i64 0),.v (.int .i64 0),.v (.int .i64 0),.v (.int .i64 0),.v (.int .i64 0)],.cells [.v (.int .i64 ((an d ((aj d c).1)).2.2))]]⟩))else none),?_,?_⟩
 ·unfold aa Tryz.f31
  simp only[ay,true_and,and_true]
  ·refine pj mixed ax hG (by decide) (by decide) (by kernel_rfl) (by kernel_rfl) fun st lc hC hp=>?_
   simp only[go_sem,Nat.reduceBEq,Option.some.injEq]at hC
   subst hC
   obtain⟨t,h⟩:=st
   dsimp only[LC]at hp
   obtain⟨e0_0,e0_1,e0_2,e0_3,rfl,hb0⟩:=hp
   refine⟨100,[.ep [.rs .order ((an d ((aj d c).1)).1)] 0,.ep (cellsOf .district d) 0],Fault,_,_,(bK ((an d ((aj d c).1)).1) d),ei,(di d c),(mz d c),_,(),_,_,_,[(4,.ptr 1 0),(5,.ptr 2 0),(6,.ptr 3 0)],(fun s_0=>[.dead,.cells [.rs .order ((an d ((aj d c).1)).1)],.cells [.v (.int .i64 0),.v (.int .i64 0),.v (.int .i64 0),.v (.int .i64 0),.v (.int .i64 0)],.cells [.v (.int .i64 ((an d ((aj d c).1)).2.2))]]),(fun x_0_0=>[.dead,.cells [.v (.slice none 0 0)],.cells [.v (.int .i64 x_0_0.1),.v (.int .i64 x_0_0.2.1),.v (.int .i64 x_0_0.2.2.1),.v (.int .i64 x_0_0.2.2.2.1),.v (.int .i64 x_0_0.2.2.2.2)],.cells [.v (.int .i64 0)]]),[0,1,2,3],?_,rfl,xY _ _ fun _ _ _=>trivial,Nat.le_of_ble_eq_true rfl,?_,kZ ((an d ((aj d c).1)).1) d _ hb0,fun z_0 s_0 hq0=>⟨rfl,L0,fun l=>?_,fun l=>?_,?_⟩,fun s_0=>?_,fun y=>?_⟩
   ·simp only[go_sem,e0_0,e0_1,e0_2,e0_3]
   ·simp only[go_sem,Nat.reduceBEq,Nat.reduceLeDiff,Nat.reduceLT,decide_true,Nat.reduceAdd,Nat.reduceSub,Nat.reduceMul,Int.reduceLE,Int.reduceLT,Int.reduceToNat,Int.reduceNeg,reduceCtorEq,qr,kc,List.flatMap_cons,List.flatMap_nil,List.nil_append,List.append_nil,List.map_nil,e0_0,e0_1,e0_2,e0_3]
    all_goals (first|done|decide|(repeat' (first|refine And.intro ?_ ?_|rfl|decide)))
   ·simp only[ay,and_self,true_and,and_true]
   ·simp only[ay,and_self,true_and,and_true]
   ·skip
    simp only[go_sem,Nat.reduceBEq,Nat.reduceLeDiff,Nat.reduceLT,decide_true,Nat.reduceAdd,Nat.reduceSub,Nat.reduceMul,Int.reduceLE,Int.reduceLT,Int.reduceToNat,Int.reduceNeg,reduceCtorEq,di,psT,ei,List.cons_append,List.nil_append]
    all_goals exact rW
   ·simp only[go_sem,Nat.reduceBEq,Nat.reduceLeDiff,Nat.reduceLT,decide_true,Nat.reduceAdd,Nat.reduceSub,Nat.reduceMul,Int.reduceLE,Int.reduceLT,Int.reduceToNat,Int.reduceNeg,reduceCtorEq]
    all_goals exact rW
   ·simp only[go_sem,Nat.reduceBEq,Nat.reduceLeDiff,Nat.reduceLT,decide_true,Nat.reduceAdd,Nat.reduceSub,Nat.reduceMul,Int.reduceLE,Int.reduceLT,Int.reduceToNat,Int.reduceNeg,reduceCtorEq]
    all_goals exact rW
 ·unfold aa Tryz.f31
  try unfold aw
  simp only[go_sem,Nat.reduceBEq,Nat.reduceLeDiff,Nat.reduceLT,decide_true,Nat.reduceAdd,Nat.reduceSub,Nat.reduceMul,Int.reduceLE,Int.reduceLT,Int.reduceToNat,Int.reduceNeg,reduceCtorEq]
  all_goals exact cl
def aL (d:District)(c:List Claim):List Order×Bool×Int:=((aw d c).1,(((aw d c).2.2==0)&&((((aw d c).2.1).kind==0)&&((((aw d c).2.1).hour==0)&&((((aw d c).2.1).index==0)&&((((aw d c).2.1).litres==0)&&(((aw d c).2.1).limit==0)))))),(aw d c).2.2)
def dP (d:District)(c:List Claim):Prop:=(d5 d c)
@[go_sem] def py:List SV→Option Con:=(pD .district fun d=>(pR .claim fun c=>(pE (.det (dP d c) (.tup [.rs .order ((aL d c).1),.v (.bool ((aL d c).2.1)),.v (.int .i64 ((aL d c).2.2))])))))
theorem vt:FnOk Tryz.prog 12 py:=by
 have hG:ConsOk Tryz.prog (mkG [(31,fun l=>kC (cn [.st .district,.sl .claim] l))] []):=aC (cgc (oj.norm [.st .district,.sl .claim]) cg0) cg0
 refine aI [.sl .order,.o,.o] mixed ax hG (fn:=Tryz.f12) (c:=aa Tryz.f12) (by kernel_rfl) (by kernel_rfl) (by kernel_rfl) (by kernel_rfl) (aN fun d=>(cj fun c=>(aB (fun hp=>?_))))
 dsimp only[aD]at hp
 unfold dP at hp
 refine⟨Nat.le_of_ble_eq_true rfl,L0,ak _,?_⟩
 ·unfold aa Tryz.f12
  try unfold aL
  simp only[go_sem,Nat.reduceBEq,Nat.reduceLeDiff,Nat.reduceLT,decide_true,Nat.reduceAdd,Nat.reduceSub,Nat.reduceMul,Int.reduceLE,Int.reduceLT,Int.reduceToNat,Int.reduceNeg,reduceCtorEq]
  all_goals exact cl
def d_ (d:District)(c:List Claim):Fault×Bool×Int:=(((aw d c).2.1),(!((((aw d c).2.1).kind==0)&&((((aw d c).2.1).hour==0)&&((((aw d c).2.1).index==0)&&((((aw d c).2.1).litres==0)&&(((aw d c).2.1).limit==0)))))),(aw d c).2.2)
def fN (d:District)(c:List Claim):Prop:=(d5 d c)
@[go_sem] def oO:List SV→Option Con:=(pD .district fun d=>(pR .claim fun c=>(pE (.det (fN d c) (.tup [.agg (cellsOf .fault ((d_ d c).1)),.v (.bool ((d_ d c).2.1)),.v (.int .i64 ((d_ d c).2.2))])))))
theorem ue:FnOk Tryz.prog 14 oO:=by
 have hG:ConsOk Tryz.prog (mkG [(31,fun l=>kC (cn [.st .district,.sl .claim] l))] []):=aC (cgc (oj.norm [.st .district,.sl .claim]) cg0) cg0
 refine aI [.st .fault,.o,.o] mixed ax hG (fn:=Tryz.f14) (c:=aa Tryz.f14) (by kernel_rfl) (by kernel_rfl) (by kernel_rfl) (by kernel_rfl) (aN fun d=>(cj fun c=>(aB (fun hp=>?_))))
 dsimp only[aD]at hp
 unfold fN at hp
 refine⟨Nat.le_of_ble_eq_true rfl,L0,ak _,?_⟩
 ·unfold aa Tryz.f14
  try unfold d_
  simp only[go_sem,Nat.reduceBEq,Nat.reduceLeDiff,Nat.reduceLT,decide_true,Nat.reduceAdd,Nat.reduceSub,Nat.reduceMul,Int.reduceLE,Int.reduceLT,Int.reduceToNat,Int.reduceNeg,reduceCtorEq]
  all_goals exact cl
end Go.Sx
end
section
namespace Go.Sx
open Go.Proofs
abbrev UM:=List (TimetableSlot×Bool)
abbrev WM:=List (TimetableSlot×Int)
def sl (a b:Int):TimetableSlot:= { index:=a,hour:=b}
def ltF (k:Nat)(r n:Int):Fault:= { kind:=7,hour:=(k:Int),index:=r,litres:=n,limit:=0}
section
variable {d:District}{s1:List Fault×WM×UM×Int}{k:Nat}{u:UM}{F:List Fault}{w:WM}
theorem IE (hu:aK .timetableSlot .bool u (sl s1.2.2.2 k)=true):∃ u',aA d s1 k (u,F,w)=.inr (u',F,w):=by
 unfold aA
 unfold sl at hu
 simp only[hu,cond_true]
 exact⟨_,rfl⟩
theorem wz (hu:aK .timetableSlot .bool u (sl s1.2.2.2 k)=false)(hn:aK .timetableSlot .int w (sl s1.2.2.2 k)=0):aA d s1 k (u,F,w)=.inr (u,F,w):=by
 unfold aA
 unfold sl at hu hn
 simp only[hu,hn,cond_false,BEq.rfl,cond_true]
theorem Em (hu:aK .timetableSlot .bool u (sl s1.2.2.2 k)=false)(hn:aK .timetableSlot .int w (sl s1.2.2.2 k)≠0)
  (hb:(am (rch d s1.2.2.2) (aK .timetableSlot .int w (sl s1.2.2.2 k))).2=false∨(k:Int) < (rch d s1.2.2.2).delay):
  ∃ u',aA d s1 k (u,F,w)=.inr (u',F++[ltF k s1.2.2.2 (aK .timetableSlot .int w (sl s1.2.2.2 k))],w):=by
 unfold aA ltF
 unfold sl at hu hn hb ⊢
 simp only[hu,cond_false]
 generalize hq:aK .timetableSlot .int w ({ index:=s1.2.2.2,hour:=(k:Int)}:TimetableSlot)=n at hn hb ⊢
 have h0:(n==0)=false:=by simpa using hn
 rw[h0,cond_false]
 unfold am at hb
 by_cases hm:n≤1073741824
 ·rw[decide_eq_true hm,cond_true]
  have h1:((n==0) ||decide (n > 1073741824))=false:=by rw[h0,Bool.false_or,decide_eq_false_iff_not];exact Int.not_lt.2 hm
  rw[h1,cond_false]at hb
  have h2:((!(bw (d.reaches.getD (Int.toNat s1.2.2.2) (default:Reach)) n).2.1) ||(decide ((k:Int) < (d.reaches.getD (Int.toNat s1.2.2.2) (default:Reach)).delay)))=true:=by
   rcases hb with hb|hb
   ·cases hN:(bw (d.reaches.getD (Int.toNat s1.2.2.2) (default:Reach)) n).2.1 with
    |false=>rfl
    |true=>rw[hN]at hb;cases hb
   ·rw[decide_eq_true hb,Bool.or_true]
  rw[h2,cond_true]
  exact⟨_,rfl⟩
 ·rw[decide_eq_false hm,cond_false]
  rw[Bool.not_false,Bool.true_or,cond_true]
  exact⟨_,rfl⟩
theorem wA (hu:aK .timetableSlot .bool u (sl s1.2.2.2 k)=false)(hn:aK .timetableSlot .int w (sl s1.2.2.2 k)≠0)
  (hb:(am (rch d s1.2.2.2) (aK .timetableSlot .int w (sl s1.2.2.2 k))).2=true) (hk:¬ (k:Int) < (rch d s1.2.2.2).delay):
  aA d s1 k (u,F,w)=.inr (u,F,c7 .timetableSlot .int w (sl (rch d s1.2.2.2).up (IntKind.i64.wrap ((k:Int) - (rch d s1.2.2.2).delay))) (IntKind.i64.wrap (aK .timetableSlot .int w (sl (rch d s1.2.2.2).up (IntKind.i64.wrap ((k:Int) - (rch d s1.2.2.2).delay)))+(am (rch d s1.2.2.2) (aK .timetableSlot .int w (sl s1.2.2.2 k))).1))):=by
 unfold aA
 unfold sl at hu hn hb ⊢
 simp only[hu,cond_false]
 generalize hq:aK .timetableSlot .int w ({ index:=s1.2.2.2,hour:=(k:Int)}:TimetableSlot)=n at hn hb ⊢
 have h0:(n==0)=false:=by simpa using hn
 rw[h0,cond_false]
 unfold am at hb ⊢
 by_cases hm:n≤1073741824
 ·rw[decide_eq_true hm,cond_true]
  have h1:((n==0) ||decide (n > 1073741824))=false:=by rw[h0,Bool.false_or,decide_eq_false_iff_not];exact Int.not_lt.2 hm
  rw[h1,cond_false]at hb ⊢
  have hN:(bw (rch d s1.2.2.2) n).2.1=true:=by
   cases hN:(bw (rch d s1.2.2.2) n).2.1 with
   |true=>rfl
   |false=>rw[hN]at hb;cases hb
  have h2:((!(bw (d.reaches.getD (Int.toNat s1.2.2.2) (default:Reach)) n).2.1) ||(decide ((k:Int) < (d.reaches.getD (Int.toNat s1.2.2.2) (default:Reach)).delay)))=false:=by
   rw[decide_eq_false hk,Bool.or_false]
   show(!(bw (rch d s1.2.2.2) n).2.1)=false
   rw[hN];rfl
  rw[h2,cond_false,hN]
  rfl
 ·have h1:((n==0) ||decide (n > 1073741824))=true:=by rw[h0,Bool.false_or,decide_eq_true_eq];exact Int.not_le.1 hm
  rw[h1,cond_true,h0]at hb
  cases hb
theorem K3:∃ u' T w',aA d s1 k (u,F,w)=.inr (u',F++T,w')∧∀ f∈T,f.kind=7:=by
 cases hu:aK .timetableSlot .bool u (sl s1.2.2.2 k)with
 |true=>obtain⟨u',e⟩:=IE (F:=F) (w:=w) hu;exact⟨u',[],w,by rw[e,List.append_nil],by simp⟩
 |false=>
  by_cases hn:aK .timetableSlot .int w (sl s1.2.2.2 k)=0
  ·exact⟨u,[],w,by rw[wz hu hn,List.append_nil],by simp⟩
  ·by_cases hb:(am (rch d s1.2.2.2) (aK .timetableSlot .int w (sl s1.2.2.2 k))).2=false∨(k:Int) < (rch d s1.2.2.2).delay
   ·obtain⟨u',e⟩:=Em (F:=F) hu hn hb
    exact⟨u',_,w,e,by simp[ltF]⟩
   ·have h1:(am (rch d s1.2.2.2) (aK .timetableSlot .int w (sl s1.2.2.2 k))).2=true:=by
     cases q:(am (rch d s1.2.2.2) (aK .timetableSlot .int w (sl s1.2.2.2 k))).2 with
     |true=>rfl
     |false=>exact absurd (.inl q) hb
    exact⟨u,[],_,by rw[wA hu hn h1 (fun q=>hb (.inr q)),List.append_nil],by simp⟩
end
section
variable {d:District}{s1:List Fault×WM×UM×Int}{items:List (List SV)}
theorem vv:∀ (n k:Nat) (u:UM) (F:List Fault) (w:WM),∃ u' T w',ap (aA d s1) n k (u,F,w)=.inr (u',F++T,w')∧∀ f∈T,f.kind=7
 |0,k,u,F,w=>⟨u,[],w,by rw[List.append_nil];rfl,by simp⟩
 |n+1,k,u,F,w=>by
  obtain⟨u1,T1,w1,e1,h1⟩:=K3 (d:=d) (s1:=s1) (k:=k) (u:=u) (F:=F) (w:=w)
  obtain⟨u2,T2,w2,e2,h2⟩:=vv n (k+1) u1 (F++T1) w1
  refine⟨u2,T1++T2,w2,?_,fun f hf=>(List.mem_append.1 hf).elim (h1 f) (h2 f)⟩
  simp only[ap,e1]
  rw[e2,List.append_assoc]
theorem x6 {F:List Fault}{f:Fault}(h:(F++[f]).map ei<+:items):items[F.length]? =some (ei f):=by
 obtain⟨t,rfl⟩:=h
 simp
theorem NV {k:Nat}{u:UM}{F:List Fault}{w:WM}(h:∀ f,(∃ u' w',aA d s1 k (u,F,w)=.inr (u',F++[f],w'))→items[F.length]? =some (ei f)):et d items s1 k (u,F,w):=by
 intro hu hn
 simp only at hu hn
 refine⟨fun hm=>⟨Hr _ _,fun hb=>h _ ?_⟩,fun hm hb=>h _ ?_⟩
 ·unfold aA
  simp only at hm hb
  simp only[hu,hn,hm,hb,cond_false,cond_true]
  exact⟨_,_,rfl⟩
 ·unfold aA
  simp only at hm hb
  simp only[hu,hn,hm,hb,cond_false,cond_true]
  exact⟨_,_,rfl⟩
theorem K4:∀ (n k:Nat) (u:UM) (F:List Fault) (w:WM),(∀ u2 F2 w2,ap (aA d s1) n k (u,F,w)=.inr (u2,F2,w2)→F2.map ei<+:items)→okI (aA d s1) (et d items s1) n k (u,F,w)
 |0,_,_,_,_,_=>trivial
 |n+1,k,u,F,w,h=>by
  refine⟨NV fun f ⟨u',w',e⟩ =>?_,fun s' e=>?_⟩
  ·obtain⟨u2,T2,w2,e2,_⟩:=vv (d:=d) (s1:=s1) n (k+1) u' (F++[f]) w'
   have:=h u2 (F++[f]++T2) w2 (by simp only[ap,e];exact e2)
   refine x6 (List.IsPrefix.trans ?_ this)
   rw[List.map_append (l₂:=T2)]
   exact List.prefix_append _ _
  ·obtain⟨u',F',w'⟩:=s'
   exact K4 n (k+1) u' F' w' fun u2 F2 w2 e2=>h u2 F2 w2 (by simp only[ap,e];exact e2)
end
section
variable {d:District}{items:List (List SV)}
theorem Gp {j:Nat}{F:List Fault}{w:WM}{u:UM}{i:Int}(h:i<0):be d j (F,w,u,i)=.inl F:=by
 unfold be
 simp only
 rw[decide_eq_false (by omega),cond_false]
theorem En {j:Nat}{F F':List Fault}{w w':WM}{u u':UM}{i:Int}(h0:0≤i)(h1:i≤1000000)(e:ap (aA d (F,w,u,i)) (Int.toNat d.hours) 0 (u,F,w)=.inr (u',F',w')):
  be d j (F,w,u,i)=.inr (F',w',u',i - 1):=by
 unfold be
 simp only
 rw[decide_eq_true (by omega),cond_true,e]
 simp only
 rw[bv (by omega) (by omega)]
theorem x7:∀ (m n j:Nat) (F:List Fault) (w:WM) (u:UM),m<n→m≤1000000→∃ T,ap (be d) n j (F,w,u,(m:Int) - 1)=.inl (F++T)∧∀ f∈T,f.kind=7
 |0,n+1,j,F,w,u,_,_=>⟨[],by simp only[ap];rw[Gp (by omega),List.append_nil],by simp⟩
 |m+1,n+1,j,F,w,u,h,hm=>by
  obtain⟨u1,T1,w1,e1,h1⟩:=vv (d:=d) (s1:=(F,w,u,((m+1:Nat):Int) - 1)) (Int.toNat d.hours) 0 u F w
  obtain⟨T2,e2,h2⟩:=x7 m n (j+1) (F++T1) w1 u1 (by omega) (by omega)
  refine⟨T1++T2,?_,fun f hf=>(List.mem_append.1 hf).elim (h1 f) (h2 f)⟩
  simp only[ap]
  rw[En (by omega) (by omega) e1]
  simp only
  rw[show((m+1:Nat):Int) - 1 - 1=(m:Int) - 1 by omega,e2,List.append_assoc]
theorem K5 (hh:d.hours≤4096):∀ (m n j:Nat) (F:List Fault) (w:WM) (u:UM),m<n→m≤1000000→m≤d.reaches.length→(∀ x,ap (be d) n j (F,w,u,(m:Int) - 1)=.inl x→x.map ei<+:items)→
  okI (be d) (fE d items) n j (F,w,u,(m:Int) - 1)
 |0,n+1,j,F,w,u,_,_,_,h=>by
  refine⟨fun q=>?_,fun s' e=>?_⟩
  ·simp only[decide_eq_true_eq]at q;omega
  ·rw[Gp (by omega)]at e;cases e
 |m+1,n+1,j,F,w,u,hmn,hm,hR,h=>by
  obtain⟨u1,T1,w1,e1,h1⟩:=vv (d:=d) (s1:=(F,w,u,((m+1:Nat):Int) - 1)) (Int.toNat d.hours) 0 u F w
  have e3:=En (j:=j) (d:=d) (by omega) (by omega) e1
  rw[show((m+1:Nat):Int) - 1 - 1=(m:Int) - 1 by omega]at e3
  refine⟨fun q=>⟨by simp only;omega,by omega,K4 _ _ _ _ _ fun u2 F2 w2 e2=>?_⟩,fun s' e=>?_⟩
  ·simp only at e2
   rw[e1]at e2
   simp only[Sum.inr.injEq,Prod.mk.injEq]at e2
   obtain⟨rfl,rfl,rfl⟩:=e2
   obtain⟨T2,e4,_⟩:=x7 (d:=d) m n (j+1) (F++T1) w1 u1 (by omega) (by omega)
   have:=h _ (by simp only[ap];rw[e3];exact e4)
   refine List.IsPrefix.trans ?_ this
   rw[List.map_append (l₂:=T2)]
   exact List.prefix_append _ _
  ·rw[e3]at e
   simp only[Sum.inr.injEq]at e
   subst e
   exact K5 hh m n (j+1) (F++T1) w1 u1 (by omega) (by omega) (by omega) fun x hx=>h x (by simp only[ap];rw[e3];exact hx)
end
end Go.Sx
end
section
namespace Go.Sx
open Go.Proofs
def Eqv (w:WM)(m:Mp):Prop:= ∀ a b,aK .timetableSlot .int w (sl a b)=aK .int2 .int m (a,b)
theorem Gq {a b x y:Int}:(sl x y=sl a b)=((x,y)=(a,b)):=by
 unfold sl
 simp only[TimetableSlot.mk.injEq,Prod.mk.injEq]
theorem Eqv.put {w:WM}{m:Mp}(h:Eqv w m)(a b v:Int):Eqv (c7 .timetableSlot .int w (sl a b) v) (c7 .int2 .int m (a,b) v):=fun x y=>by
 rw[ik,ik,h]
 by_cases q:(x,y)=(a,b)
 ·rw[if_pos (by rw[Gq];exact q),if_pos q]
 ·rw[if_neg (by rw[Gq];exact q),if_neg q]
theorem rY {ρ σ τ:Type}(step:τ→σ→ρ⊕σ):∀ (A B:List τ) (s:σ),cI step (A++B) s=match cI step A s with| .inl y=>.inl y| .inr s'=>cI step B s'
 | [],B,s=>rfl
 |x::A,B,s=>by
  simp only[List.cons_append,cI]
  cases h:step x s with
  |inl y=>rfl
  |inr s'=>exact rY step A B s'
section
variable {d:District}{out:List Order}
theorem O3:∀ (n k:Nat) (w:WM) (m m':Mp),Eqv w m→ap (ba d out) n k m=.inr m'→∃ w',ap (ca out d) n k w=.inr w'∧Eqv w' m'
 |0,k,w,m,m',h,e=>by
  simp only[ap,Sum.inr.injEq]at e
  subst e
  exact⟨w,rfl,h⟩
 |n+1,k,w,m,m',h,e=>by
  simp only[ap]at e ⊢
  cases hs:ba d out k m with
  |inl x=>rw[hs]at e;cases e
  |inr m1=>
   rw[hs]at e
   simp only at e
   refine O3 n (k+1) _ m1 m' ?_ e
   unfold ba at hs
   cases ho:(out.getD k (default:Order)).outlet with
   |false=>rw[ho]at hs;cases hs
   |true=>
    rw[ho]at hs
    simp only[Bool.not_true,cond_false,Sum.inr.injEq]at hs
    subst hs
    have h1:=h (d.farms.getD (Int.toNat ((out.getD k (default:Order)).index)) (default:Farm)).reach (out.getD k (default:Order)).hour
    have:=h.put (d.farms.getD (Int.toNat ((out.getD k (default:Order)).index)) (default:Farm)).reach (out.getD k (default:Order)).hour (IntKind.i64.wrap ((aK .int2 .int m ((d.farms.getD (Int.toNat ((out.getD k (default:Order)).index)) (default:Farm)).reach,(out.getD k (default:Order)).hour))+(out.getD k (default:Order)).litres))
    rw[←h1]at this ⊢
    exact this
theorem CF (s:TimetableSlot):aK .timetableSlot .bool [] s=false:=rfl
theorem zG {s1:List Fault×WM×UM×Int}{r:Nat}(hs:s1.2.2.2=(r:Int)){H:Nat}:∀ (n k:Nat) (l:List Order) (m:Mp) (w:WM),k+n=H→Eqv w m→
  (∃ l' m' w',cI (aF d) (vn r H k) (l,m)=.inr (l',m')∧ap (aA d s1) n k ([],[],w)=.inr ([],[],w')∧Eqv w' m')∨
  ((∃ y,cI (aF d) (vn r H k) (l,m)=.inl y)∧∃ u' F' w',ap (aA d s1) n k ([],[],w)=.inr (u',F',w')∧F'≠[])
 |0,k,l,m,w,hk,h=>by
  have:k=H:=by omega
  subst this
  rw[pw]
  exact .inl ⟨l,m,w,rfl,rfl,h⟩
 |n+1,k,l,m,w,hk,h=>by
  rw[ll (by omega:k<H)]
  have hg:=h (r:Int) (k:Int)
  rw[←hs]at hg
  simp only[cI,ap]
  by_cases h0:aK .timetableSlot .int w (sl s1.2.2.2 k)=0
  ·have e1:aF d ((r:Int),(k:Int)) (l,m)=.inr (l,m):=by
    unfold aF
    rw[h0,hs]at hg
    simp only[←hg,BEq.rfl,cond_true]
   rw[e1,wz (CF _) h0]
   exact zG hs n (k+1) l m w (by omega) h
  ·by_cases hb:(am (rch d s1.2.2.2) (aK .timetableSlot .int w (sl s1.2.2.2 k))).2=false∨(k:Int) < (rch d s1.2.2.2).delay
   ·refine .inr ⟨?_,?_⟩
    ·have e1:aF d ((r:Int),(k:Int)) (l,m)=.inl m:=by
      unfold aF
      rw[hg,hs]at h0 hb
      have h1:(aK .int2 .int m ((r:Int),(k:Int)) ==(0:Int))=false:=beq_eq_false_iff_ne.2 h0
      simp only[h1,cond_false]
      have h2:((!(am (d.reaches.getD (Int.toNat (r:Int)) (default:Reach)) (aK .int2 .int m ((r:Int),(k:Int)))).2) ||(decide ((k:Int) < (d.reaches.getD (Int.toNat (r:Int)) (default:Reach)).delay)))=true:=by
       rcases hb with hb|hb
       ·rw[hb];rfl
       ·rw[decide_eq_true hb,Bool.or_true]
      rw[h2,cond_true]
     rw[e1]
     exact⟨_,rfl⟩
    ·obtain⟨u',e⟩:=Em (F:=[]) (CF _) h0 hb
     rw[e]
     obtain⟨u2,T2,w2,e2,_⟩:=vv (d:=d) (s1:=s1) n (k+1) u' ([]++[ltF k s1.2.2.2 (aK .timetableSlot .int w (sl s1.2.2.2 k))]) w
     exact⟨u2,_,w2,e2,by simp⟩
   ·have hv:(am (rch d s1.2.2.2) (aK .timetableSlot .int w (sl s1.2.2.2 k))).2=true:=by
     cases q:(am (rch d s1.2.2.2) (aK .timetableSlot .int w (sl s1.2.2.2 k))).2 with
     |true=>rfl
     |false=>exact absurd (.inl q) hb
    have hk2:¬ (k:Int) < (rch d s1.2.2.2).delay:=fun q=>hb (.inr q)
    rw[wA (CF _) h0 hv hk2]
    rw[hg]at h0 hv ⊢
    rw[hs]at h0 hv hk2 ⊢
    have e1:aF d ((r:Int),(k:Int)) (l,m)=.inr (l++[({ hour:=(IntKind.i64.wrap ((k:Int) - (rch d (r:Int)).delay)),index:=(r:Int),litres:=(am (rch d (r:Int)) (aK .int2 .int m ((r:Int),(k:Int)))).1,outlet:=false}:Order)],c7 .int2 .int m ((rch d (r:Int)).up,IntKind.i64.wrap ((k:Int) - (rch d (r:Int)).delay)) (IntKind.i64.wrap ((aK .int2 .int m ((rch d (r:Int)).up,IntKind.i64.wrap ((k:Int) - (rch d (r:Int)).delay)))+(am (rch d (r:Int)) (aK .int2 .int m ((r:Int),(k:Int)))).1))):=by
     unfold aF
     have h1:(aK .int2 .int m ((r:Int),(k:Int)) ==(0:Int))=false:=beq_eq_false_iff_ne.2 h0
     simp only[h1,cond_false]
     have h2:((!(am (d.reaches.getD (Int.toNat (r:Int)) (default:Reach)) (aK .int2 .int m ((r:Int),(k:Int)))).2) ||(decide ((k:Int) < (d.reaches.getD (Int.toNat (r:Int)) (default:Reach)).delay)))=false:=by
      rw[decide_eq_false hk2,Bool.or_false]
      show(!(am (rch d (r:Int)) (aK .int2 .int m ((r:Int),(k:Int)))).2)=false
      rw[hv];rfl
     rw[h2,cond_false]
    rw[e1,h]
    exact zG hs n (k+1) _ _ _ (by omega) (h.put _ _ _)
theorem Eo:∀ (m n j:Nat) (l:List Order) (md:Mp) (w:WM),m<n→m≤1000000→Eqv w md→(∃ y,cI (aF d) (qg d.hours.toNat m) (l,md)=.inl y)→
  ∃ T,ap (be d) n j ([],w,[],(m:Int) - 1)=.inl T∧T≠[]
 |0,n,j,l,md,w,_,_,_,⟨y,e⟩ =>by simp[qg,cI]at e
 |m+1,n+1,j,l,md,w,hmn,hm,h,⟨y,e⟩ =>by
  rw[px]at e
  have hs:(([],w,[],((m+1:Nat):Int) - 1):List Fault×WM×UM×Int).2.2.2=(m:Int):=by simp only;omega
  rcases zG (d:=d) hs (H:=d.hours.toNat) d.hours.toNat 0 l md w (by omega) h with⟨l',m',w',e1,e2,h'⟩ | ⟨_,u',F',w',e2,hF⟩
  ·rw[rY,e1]at e
   obtain⟨T,e3,hT⟩:=Eo m n (j+1) l' m' w' (by omega) (by omega) h' ⟨y,e⟩
   refine⟨T,?_,hT⟩
   simp only[ap]
   rw[En (by omega) (by omega) e2,show((m+1:Nat):Int) - 1 - 1=(m:Int) - 1 by omega]
   exact e3
  ·obtain⟨T,e3,_⟩:=x7 (d:=d) m n (j+1) F' w' u' (by omega) (by omega)
   refine⟨F'++T,?_,by simp[hF]⟩
   simp only[ap]
   rw[En (by omega) (by omega) e2,show((m+1:Nat):Int) - 1 - 1=(m:Int) - 1 by omega]
   exact e3
theorem uf (hr:Right1 d)(ho:Orders1 d out)(hall:∀ x∈out,x.outlet=true):∃ w0,ap (ca out d) out.length 0 []=.inr w0∧(∃ m,ap (ba d out) out.length 0 []=.inr m∧Eqv w0 m)∧
  ap (be d) (d.reaches.length+1) 0 ([],w0,[],IntKind.i64.wrap ((d.reaches.length:Int) - 1))=.inl (aS out d)∧∀ f∈aS out d,f.kind=7:=by
 obtain⟨m,hm⟩:=(sR hr ho).2.2 hall
 obtain⟨w0,e0,h0⟩:=O3 out.length 0 [] [] m (fun _ _=>rfl) hm
 have hR:=hr.reaches
 obtain⟨T,e1,h1⟩:=x7 (d:=d) d.reaches.length (d.reaches.length+1) 0 [] w0 [] (by omega) (by omega)
 have hw:IntKind.i64.wrap ((d.reaches.length:Int) - 1)=(d.reaches.length:Int) - 1:=bv (by omega) (by omega)
 have e2:aS out d=T:=by
  unfold aS
  rw[hw]
  simp only[e0,e1,List.nil_append]
 rw[hw,e2]
 exact⟨w0,e0,⟨m,hm,h0⟩,by rw[e1,List.nil_append],h1⟩
theorem QX (hr:Right1 d)(ho:Orders1 d out)(hall:∀ x∈out,x.outlet=true):fz out d ((aS out d).map ei):=by
 obtain⟨w0,e0,_,e1,_⟩:=uf hr ho hall
 intro _
 have hR:=hr.reaches
 have hh:=hr.hours
 refine⟨?_,fun s_0 hs _=>?_⟩
 ·have hst:∀ j s,0≤j→j<0+out.length→fD out d j s:=fun j s _ hj=>by
   have h1:=ho.one j (by omega)
   have h2:(out.getD j (default:Order)).outlet=true:=hall _ (nG _ _ (by omega))
   exact⟨h1.index0,h1.farm h2⟩
  exact fZ (fun _ _=>True) _ _ _ trivial fun j s h1 h2 _=>⟨hst j s h1 h2,fun _ _=>trivial⟩
 ·rw[e0]at hs
  simp only[Sum.inr.injEq]at hs
  subst hs
  have hw:IntKind.i64.wrap ((d.reaches.length:Int) - 1)=(d.reaches.length:Int) - 1:=bv (by omega) (by omega)
  refine⟨?_,fun z hz=>?_,fun x hx=>?_⟩
  ·rw[hw]at e1 ⊢
   exact K5 hh _ _ _ _ _ _ (by omega) (by omega) (Nat.le_refl _) fun x hx=>by
    rw[e1]at hx
    simp only[Sum.inl.injEq]at hx
    subst hx
    exact List.prefix_rfl
  ·rw[e1]at hz;cases hz
  ·rw[e1]at hx
   simp only[Sum.inl.injEq]at hx
   subst hx
   simp
theorem NW (hr:Right1 d)(ho:Orders1 d out)(hall:∀ x∈out,x.outlet=true)(hP:(an d out).2.1=false)(hP2:(an d out).2.2=0):aS out d≠[]:=by
 obtain⟨w0,e0,⟨m,hm,h0⟩,e1,_⟩:=uf hr ho hall
 have hR:=hr.reaches
 have hw:IntKind.i64.wrap ((d.reaches.length:Int) - 1)=(d.reaches.length:Int) - 1:=bv (by omega) (by omega)
 have hy:∃ y,cI (aF d) (br d) (out,m)=.inl y:=by
  cases q:cI (aF d) (br d) (out,m)with
  |inl y=>exact⟨y,rfl⟩
  |inr s=>
   exfalso
   unfold an at hP hP2
   simp only[hm,q]at hP hP2
   cases hn:((bq d out) !=0)with
   |true=>
    rw[hn]at hP2
    simp only[cond_true]at hP2
    rw[hP2]at hn;cases hn
   |false=>
    rw[hn]at hP hP2
    simp only[cond_false]at hP hP2
    cases hd:decide ((s.1.length:Int) > 4096)with
    |true=>rw[hd]at hP2;cases hP2
    |false=>rw[hd]at hP;cases hP
 obtain⟨T,e3,hT⟩:=Eo (d:=d) d.reaches.length (d.reaches.length+1) 0 out m w0 (by omega) (by omega) h0 hy
 rw[hw,e3]at e1
 simp only[Sum.inl.injEq]at e1
 rw[←e1]
 exact hT
end
abbrev F5:=Int×Int×Int×Int×Int
def wB (f:Fault):F5:=(f.kind,f.hour,f.index,f.litres,f.limit)
theorem CG (out:List Order)(d:District):∀ (L:List Fault) (s:F5),∃ s',cI (a8 out d) L s=.inr s'∧(s'=s∨∃ f∈L,s'=wB f)
 | [],s=>⟨s,rfl,.inl rfl⟩
 |f::L,s=>by
  have h1:a8 out d f s=.inr (wB f)∨a8 out d f s=.inr s:=by
   unfold a8 wB
   cases(((s.1==0)&&((s.2.1==0)&&((s.2.2.1==0)&&((s.2.2.2.1==0)&&(s.2.2.2.2==0))))) ||(decide ((bE ([(aP f.hour s.2.1),(aP s.2.2.1 f.index)])) <0)))with
   |true=>exact .inl rfl
   |false=>exact .inr rfl
  simp only[cI]
  rcases h1 with h1|h1
  ·rw[h1]
   obtain⟨s',e,h⟩:=CG out d L (wB f)
   refine⟨s',e,.inr ?_⟩
   rcases h with rfl| ⟨g,hg,rfl⟩
   ·exact⟨f,List.mem_cons_self,rfl⟩
   ·exact⟨g,List.mem_cons_of_mem _ hg,rfl⟩
  ·rw[h1]
   obtain⟨s',e,h⟩:=CG out d L s
   refine⟨s',e,?_⟩
   rcases h with rfl| ⟨g,hg,rfl⟩
   ·exact .inl rfl
   ·exact .inr ⟨g,List.mem_cons_of_mem _ hg,rfl⟩
theorem IF {out:List Order}{d:District}(h:aS out d≠[]):dG out d∈aS out d:=by
 unfold dG
 cases hL:aS out d with
 |nil=>exact absurd hL h
 |cons f L=>
  have h1:a8 out d f (0,0,0,0,0)=.inr (wB f):=by
   unfold a8 wB
   simp only[BEq.rfl,Bool.and_true,Bool.true_or,cond_true]
  obtain⟨s',e,h⟩:=CG out d L (wB f)
  simp only[cI,h1,e]
  rcases h with rfl| ⟨g,hg,rfl⟩
  ·exact List.mem_cons_self
  ·exact List.mem_cons_of_mem _ hg
end Go.Sx
end
section
namespace Go.Sx
open Go.Proofs
theorem wC {f:Nat→List Fault}{step:Nat→List Fault→Empty⊕List Fault}:∀ (n i:Nat) (s:List Fault),(∀ j s,i≤j→j<i+n→step j s=.inr (s++f j))→ap step n i s=.inr (s++(List.range' i n).flatMap f)
 |0,i,s,_=>by simp[ap]
 |n+1,i,s,h=>by
  simp only[ap,h i s (Nat.le_refl _) (by omega)]
  rw[wC n (i+1) (s++f i) fun j s h1 h2=>h j s (by omega) (by omega)]
  simp[List.range'_succ]
theorem zH {f:Nat→List Fault}{step:Nat→List Fault→Empty⊕List Fault}{p:Nat→List Fault→Prop}{items:List (List SV)}:∀ (n i:Nat) (s:List Fault),(∀ j s,i≤j→j<i+n→step j s=.inr (s++f j))→
  (∀ j s,i≤j→j<i+n→(s++f j).map ei<+:items→p j s)→(s++(List.range' i n).flatMap f).map ei<+:items→okI step p n i s
 |0,_,_,_,_,_=>trivial
 |n+1,i,s,h,hp,hi=>by
  rw[List.range'_succ,List.flatMap_cons,←List.append_assoc]at hi
  refine⟨hp i s (Nat.le_refl _) (by omega) (List.IsPrefix.trans (by rw[List.map_append (l₂:=List.flatMap f _)];exact List.prefix_append _ _) hi),fun s' e=>?_⟩
  rw[h i s (Nat.le_refl _) (by omega)]at e
  simp only[Sum.inr.injEq]at e
  subst e
  exact zH n (i+1) (s++f i) (fun j s h1 h2=>h j s (by omega) (by omega)) (fun j s h1 h2=>hp j s (by omega) (by omega)) hi
def g0P (x:Order):Bool:= !x.outlet&&x.index==0
section
variable {d:District}{l:List Order}
theorem Gr (ho:Orders1 d l):∃ s0,ap (aR l) l.length 0 ([],0)=.inr s0∧(∀ r h,aK .timetableSlot .int s0.1 (sl r h)=cp (dc r h h) l)∧s0.2=cp g0P l:=by
 obtain⟨s,e,h1,h2⟩:=CA (step:=aR l) (fun j s=>(∀ r h,aK .timetableSlot .int s.1 (sl r h)=cp (dc r h h) (l.take j))∧s.2=cp g0P (l.take j)) l.length 0 ([],0) ⟨fun _ _=>rfl,rfl⟩ (fun j s _ hj ⟨h1,h2⟩ =>by
  have hj:j<l.length:=by omega
  have hb:=HD ho g0P j
  have hlit:=ho.lit _ (List.getElem_mem hj)
  unfold aR
  rw[cm _ _ hj]
  cases hout:l[j].outlet with
  |true=>
   refine⟨_,rfl,fun r h=>?_,?_⟩
   ·rw[lj hj,h1]
    have:dc r h h l[j]=false:=by unfold dc;rw[hout];rfl
    rw[this];simp
   ·rw[lj hj,h2]
    have:g0P l[j]=false:=by unfold g0P;rw[hout];rfl
    rw[this];simp
  |false=>
   have hg:∀ r h,aK .timetableSlot .int (c7 .timetableSlot .int s.1 (sl l[j].index l[j].hour) l[j].litres) (sl r h)=cp (dc r h h) (l.take (j+1)):=fun r h=>by
    rw[ik,lj hj,h1]
    by_cases q:r=l[j].index∧h=l[j].hour
    ·obtain⟨rfl,rfl⟩:=q
     have hp:dc l[j].index l[j].hour l[j].hour l[j]=true:=by unfold dc;rw[hout];simp
     rw[if_pos rfl,hp,IC ho hj (fun x hx=>?_)]
     ·simp
     ·unfold dc at hx
      simp only[Bool.and_eq_true,Bool.not_eq_true',beq_iff_eq,decide_eq_true_eq]at hx
      exact⟨by omega,hx.1.1.2,by rw[hx.1.1.1,hout]⟩
    ·have hp:dc r h h l[j]=false:=by
      cases hc:dc r h h l[j]with
      |false=>rfl
      |true=>
       unfold dc at hc
       simp only[Bool.and_eq_true,Bool.not_eq_true',beq_iff_eq,decide_eq_true_eq]at hc
       exact absurd ⟨hc.1.1.2.symm,by omega⟩ q
     rw[if_neg (fun e=>q (by rw[Gq]at e;simp only[Prod.mk.injEq]at e;exact e)),hp]
     simp
   by_cases h0:l[j].index=0
   ·have hb0:(l[j].index==0)=true:=by rw[h0];rfl
    simp only[Bool.not_false,cond_true,hb0]
    refine⟨_,rfl,hg,?_⟩
    have:g0P l[j]=true:=by unfold g0P;rw[hout,hb0];rfl
    rw[lj hj,this,h2,bv (by omega) (by omega),cond_true]
   ·have hb0:(l[j].index==0)=false:=by simpa using h0
    simp only[Bool.not_false,cond_true,hb0,cond_false]
    refine⟨_,rfl,hg,?_⟩
    have:g0P l[j]=false:=by unfold g0P;rw[hout,hb0];rfl
    rw[lj hj,this,h2]
    simp)
 rw[Nat.zero_add,List.take_length]at h1 h2
 exact⟨s,e,h1,h2⟩
theorem K6 (ho:Orders1 d l){s0:WM×Int}(hg:∀ r h,aK .timetableSlot .int s0.1 (sl r h)=cp (dc r h h) l)(h i:Nat)(hh:h≤1000000)(n:Nat)(hn:n≤1000000):
  ap (eu d s0 h i) n 0 0=.inr (cp (dc i ((h:Int) - n+1) h) l):=by
 obtain⟨s,e,h1⟩:=CA (step:=eu d s0 h i) (fun j s=>s=cp (dc i ((h:Int) - j+1) h) l) n 0 0 (iJ (fun x _=>by
   cases hc:dc i ((h:Int) - (0:Nat)+1) h x with
   |false=>rfl
   |true=>
    unfold dc at hc
    simp only[Bool.and_eq_true,decide_eq_true_eq]at hc
    omega)).symm (fun j s _ hj hs=>by
  refine⟨_,rfl,?_⟩
  have e1:=hg (i:Int) ((h:Int) - (j:Int))
  unfold sl at e1
  have e2:=KX ho (i:Int) (a:=(h:Int) - j) (m:=(h:Int) - j+1) (b:=(h:Int)) (by omega) (by omega)
  have e3:=KW ho (dc i ((h:Int) - j) ((h:Int) - j))
  have e4:=KW ho (dc i ((h:Int) - j+1) h)
  rw[show(h:Int) - j+1 - 1=(h:Int) - j by omega]at e2
  rw[bv (n:=(h:Int) - (j:Int)) (by omega) (by omega),e1,hs,bv (by omega) (by omega),show(h:Int) - ((j+1:Nat):Int)+1=(h:Int) - j by omega]
  omega)
 rw[e,h1,Nat.zero_add]
def bk (d:District)(l:List Order)(h i:Nat):List Fault:=
 (if cp (dc i h h) l > (rch d i).cap then [{ kind:=1,hour:=(h:Int),index:=(i:Int),litres:=cp (dc i h h) l,limit:=(rch d i).cap}]else [])++
 (if cp (dc i ((h:Int) - (rch d i).delay+1) h) l > (rch d i).bank then [{ kind:=3,hour:=(h:Int),index:=(i:Int),litres:=cp (dc i ((h:Int) - (rch d i).delay+1) h) l,limit:=(rch d i).bank}]else [])
theorem HF (ho:Orders1 d l){s0:WM×Int}(hg:∀ r h,aK .timetableSlot .int s0.1 (sl r h)=cp (dc r h h) l){h i:Nat}(hh:h≤1000000)(hi:i<d.reaches.length)(s:List Fault){items:List (List SV)}:
  dA d s0 h i s=.inr (s++bk d l h i)∧((s++bk d l h i).map ei<+:items→eR d items s0 h i s):=by
 have hx:=ho.right.reach1 hi
 have hd1:=hx.delay1
 have hd2:=hx.delay
 have e1:=K6 ho hg h i hh (Int.toNat (d.reaches.getD i (default:Reach)).delay) (by omega)
 have e2:=hg (i:Int) (h:Int)
 unfold sl at e2
 have e3:((Int.toNat (d.reaches.getD i (default:Reach)).delay:Nat):Int)=(rch d (i:Int)).delay:=by
  show _=(d.reaches.getD (Int.toNat (i:Int)) (default:Reach)).delay
  rw[Int.toNat_natCast];omega
 rw[e3]at e1
 have e4:d.reaches.getD i (default:Reach)=rch d (i:Int):=by show _=d.reaches.getD (Int.toNat (i:Int)) default;rw[Int.toNat_natCast]
 have hdl:(d.reaches.getD i (default:Reach)).delay<9223372036854775808:=by omega
 refine⟨?_,fun hp=>⟨hdl,fun s3 h3=>?_⟩⟩
 ·unfold dA bk
  simp only[e1,e2]
  rw[e4]
  generalize cp (dc i ((h:Int) - (rch d (i:Int)).delay+1) h) l=B
  generalize cp (dc i h h) l=A
  generalize rch d (i:Int)=x
  by_cases c1:A > x.cap <;>by_cases c2:B > x.bank <;>simp[c1,c2]
 ·rw[e1]at h3
  simp only[Sum.inr.injEq]at h3
  subst h3
  simp only[e2]
  rw[e4]
  unfold bk at hp
  generalize cp (dc i ((h:Int) - (rch d (i:Int)).delay+1) h) l=B at hp ⊢
  generalize cp (dc i h h) l=A at hp ⊢
  generalize rch d (i:Int)=x at hp ⊢
  refine⟨fun q1=>⟨?_,fun q2=>?_,fun q=>q⟩,fun q1=>⟨q1,fun q2=>?_,fun q=>q⟩⟩
  ·rw[if_pos (of_decide_eq_true q1),←List.append_assoc]at hp
   refine x6 (List.IsPrefix.trans ?_ hp)
   rw[List.map_append (l₁:=s++_)]
   exact List.prefix_append _ _
  ·rw[if_pos (of_decide_eq_true q1),if_pos (of_decide_eq_true q2),←List.append_assoc]at hp
   exact x6 hp
  ·rw[if_neg (of_decide_eq_false q1),if_pos (of_decide_eq_true q2),List.nil_append]at hp
   exact x6 hp
def bkH (d:District)(l:List Order)(h:Nat):List Fault:=(List.range' 0 d.reaches.length).flatMap (bk d l h)
theorem HG (ho:Orders1 d l){s0:WM×Int}(hg:∀ r h,aK .timetableSlot .int s0.1 (sl r h)=cp (dc r h h) l){h:Nat}(hh:h≤1000000)(s:List Fault){items:List (List SV)}:
  cX d s0 h s=.inr (s++bkH d l h)∧((s++bkH d l h).map ei<+:items→eS d items s0 h s):=by
 have key:∀ j s,0≤j→j<0+d.reaches.length→dA d s0 h j s=.inr (s++bk d l h j):=fun j s _ hj=>(HF ho hg hh (by omega) s (items:=items)).1
 refine⟨?_,fun hp _=>?_⟩
 ·unfold cX
  rw[wC d.reaches.length 0 s key]
  rfl
 ·exact zH d.reaches.length 0 s key (fun j s _ hj hq=>(HF ho hg hh (by omega) s).2 hq) hp
def tp (d:District)(l:List Order):List Fault:=(List.range' 0 d.hours.toNat).flatMap (bkH d l)++(if cp g0P l > d.tank.start then [{ kind:=4,hour:=0,index:=0,litres:=cp g0P l,limit:=d.tank.start}]else [])
theorem Bw (ho:Orders1 d l):bK l d=tp d l∧dO l d ((bK l d).map ei):=by
 obtain⟨s0,e0,hg,h0⟩:=Gr ho
 have hh:=ho.right.hours
 have key:∀ j s,0≤j→j<0+d.hours.toNat→cX d s0 j s=.inr (s++bkH d l j):=fun j s _ hj=>(HG ho hg (by omega) s (items:=[])).1
 have e1:=wC d.hours.toNat 0 [] key
 have e2:bK l d=tp d l:=by
  unfold bK tp
  simp only[e0,e1,h0,List.nil_append]
  by_cases c:cp g0P l > d.tank.start
  ·rw[decide_eq_true c,cond_true,if_pos c]
  ·rw[decide_eq_false c,cond_false,if_neg c,List.append_nil]
 refine⟨e2,?_⟩
 rw[e2]
 intro _ s hs
 rw[e0]at hs
 simp only[Sum.inr.injEq]at hs
 subst hs
 refine⟨by omega,?_,fun s1 hs1=>?_⟩
 ·refine zH d.hours.toNat 0 [] key (fun j s _ hj hq=>(HG ho hg (by omega) s).2 hq) ?_
  unfold tp
  rw[List.nil_append,List.map_append]
  exact List.prefix_append _ _
 ·rw[e1]at hs1
  simp only[List.nil_append,Sum.inr.injEq]at hs1
  subst hs1
  rw[h0]
  unfold tp
  by_cases c:cp g0P l > d.tank.start
  ·rw[decide_eq_true c,if_pos c]
   simp
  ·rw[decide_eq_false c,if_neg c]
   simp
structure Lim (d:District)(l:List Order):Prop where
 cap:∀ h i:Nat,h<d.hours.toNat→i<d.reaches.length→cp (dc i h h) l≤(rch d i).cap
 bank:∀ h i:Nat,h<d.hours.toNat→i<d.reaches.length→cp (dc i ((h:Int) - (rch d i).delay+1) h) l≤(rch d i).bank
 tank:cp g0P l≤d.tank.start
theorem Gs:∀ f∈tp d l,f.kind≠0∧f.limit<f.litres:=by
 intro f hf
 unfold tp bkH bk at hf
 simp only[List.mem_append,List.mem_flatMap]at hf
 rcases hf with⟨h,_,i,_,hf|hf⟩ |hf
 all_goals
  split at hf
  ·rename_i c
   simp only[List.mem_cons,List.not_mem_nil,or_false]at hf
   subst hf
   exact⟨by simp,c⟩
  ·cases hf
end
end Go.Sx
end
section
namespace Go.Sx
open Go.Proofs
section
variable {d:District}{c:List Claim}
theorem lQ (s:List Order):aJ s=true↔∃ x∈s,x.litres > 1073741824:=by
 unfold aJ cq
 have hst:∀ j,aZ s j ()=bif decide ((s.getD j default).litres > 1073741824)then .inl (j:Int)else .inr ():=fun j=>rfl
 have key:∀ n i,(∀ j,i≤j→j<i+n→¬ (s.getD j default).litres > 1073741824)→ap (aZ s) n i ()=.inr ():=by
  intro n
  induction n with
  |zero=>intro i _;rfl
  |succ n ih=>
   intro i h
   simp only[ap,hst]
   rw[decide_eq_false (h i (Nat.le_refl _) (by omega)),cond_false]
   exact ih (i+1) fun j h1 h2=>h j (by omega) (by omega)
 have key2:∀ n i x,ap (aZ s) n i ()=.inl x→0≤x∧∃ j,i≤j∧j<i+n∧(s.getD j default).litres > 1073741824:=by
  intro n
  induction n with
  |zero=>intro i x h;cases h
  |succ n ih=>
   intro i x h
   simp only[ap,hst]at h
   by_cases q:(s.getD i default).litres > 1073741824
   ·rw[decide_eq_true q,cond_true]at h
    simp only[Sum.inl.injEq]at h
    exact⟨by omega,i,Nat.le_refl _,by omega,q⟩
   ·rw[decide_eq_false q,cond_false]at h
    obtain⟨h1,j,h2,h3,h4⟩:=ih (i+1) x h
    exact⟨h1,j,by omega,by omega,h4⟩
 constructor
 ·intro h
  cases hr:ap (aZ s) s.length 0 ()with
  |inl x=>
   obtain⟨_,j,_,hj,hl⟩:=key2 _ _ _ hr
   exact⟨_,nG s default (by omega),hl⟩
  |inr u=>rw[hr]at h;simp at h
 ·rintro⟨x,hx,hl⟩
  obtain⟨j,hj,rfl⟩:=List.getElem_of_mem hx
  cases hr:ap (aZ s) s.length 0 ()with
  |inl x=>have:=(key2 _ _ _ hr).1;simp only[decide_eq_true_eq];omega
  |inr u=>
   have h1:=zm hr j (Nat.zero_le _) (by omega)
   rw[hst,cm _ _ hj,decide_eq_true hl]at h1
   cases h1
structure Askd (d:District)(c:List Claim):Prop where
 chk:bu d c=0
 wide:(d.reaches.length:Int)*d.hours≤1024
 lit:∀ x∈ar c,x.litres≤1073741824
theorem x8 (h:bu d c=0):okL1 c:=by
 obtain⟨_,h2,h3,_⟩:=(jL d c).1 h
 exact⟨h2,fun a ha=>Gn (h3 a ha)⟩
theorem Ep (h:bu d c=0):Right1 d:=rL (by rw[((jL d c).1 h).1];rfl)
theorem CH (h:bu d c=0):IntKind.i64.wrap ((d.reaches.length:Int)*d.hours)=(d.reaches.length:Int)*d.hours:=by
 have:=sS (Ep h)
 exact bv (by omega) (by omega)
theorem jY:(aj d c).2=0↔Askd d c:=by
 unfold aj
 by_cases h1:bu d c=0
 ·rw[h1]
  simp only[bne_self_eq_false,cond_false]
  rw[CH h1]
  by_cases h2:(d.reaches.length:Int)*d.hours > 1024
  ·rw[decide_eq_true h2,cond_true]
   constructor
   ·intro h;cases h
   ·intro h;have:=h.wide;omega
  ·rw[decide_eq_false h2,cond_false]
   cases h3:aJ (ar c)with
   |true=>
    rw[cond_true]
    obtain⟨x,hx,hl⟩:=(lQ _).1 h3
    constructor
    ·intro h;cases h
    ·intro h;have:=h.lit x hx;omega
   |false=>
    rw[cond_false]
    refine⟨fun _=>⟨h1,by omega,fun x hx=>?_⟩,fun _=>rfl⟩
    by_cases q:x.litres > 1073741824
    ·have:=(lQ _).2 ⟨x,hx,q⟩
     rw[h3]at this;cases this
    ·omega
 ·have:(bu d c !=0)=true:=by simpa using h1
  rw[this,cond_true]
  exact⟨fun h=>absurd h h1,fun h=>absurd h.chk h1⟩
theorem Bx (h:Askd d c):aj d c=(ar c,0):=by
 have h2:=jY.2 h
 unfold aj at h2 ⊢
 rw[h.chk]at h2 ⊢
 simp only[bne_self_eq_false,cond_false]at h2 ⊢
 rw[CH h.chk]at h2 ⊢
 rw[decide_eq_false (by have:=h.wide;omega),cond_false]at h2 ⊢
 cases h3:aJ (ar c)with
 |true=>rw[h3]at h2;cases h2
 |false=>rfl
theorem Er (d:District)(c:List Claim):d4 d c:=by
 refine⟨IA d c,fun h _ _=>ID (x8 (d:=d) ?_)⟩
 simpa using h
theorem Askd.outs (h:Askd d c):Outs c (ar c):=Sx.outs (x8 h.chk)
theorem Askd.nar (h:Askd d c):Nar d (ar c):=by
 obtain⟨h1,h2,h3,_⟩:=(jL d c).1 h.chk
 have ho:=h.outs
 refine⟨⟨h1,Nat.le_trans ho.len h2,fun x hx=>?_,ho.asc⟩,h.wide⟩
 obtain⟨a,ha,e1,e2⟩:=ho.src x hx
 have hk:=h3 a ha
 unfold okC at hk
 simp only[Bool.and_eq_true,decide_eq_true_eq]at hk
 have hout:=ho.out x hx
 have hl:=ho.lit x hx
 have hl2:=h.lit x hx
 exact⟨by omega,by omega,by omega,fun _=>by omega,fun q=>(by rw[hout]at q;cases q),hl.2,hl2⟩
theorem Es (d:District)(c:List Claim):d5 d c:=by
 refine⟨Er d c,fun h=>?_⟩
 have hA:Askd d c:=jY.1 (by simpa using h)
 have ha:=Bx hA
 rw[ha]
 have hN:=hA.nar
 have hall:=hA.outs.out
 refine⟨QT _ _,fun h2=>⟨fun _=>?_,fun h3=>?_⟩⟩
 ·exact QX hN.good.right hN.good.orders hall
 ·rcases uc d (ar c)with⟨_,e⟩ | ⟨_,_,e⟩ | ⟨_,_,_,e⟩ | ⟨_,_,gs,_,_,e⟩ | ⟨_,_,gs,hP,e⟩
  ·rw[e]at h3;cases h3
  ·rw[e]at h3;cases h3
  ·rw[e]at h3;cases h3
  ·rw[e]at h3;cases h3
  ·rw[e]
   exact(Bw hP.good.orders).2
theorem CI (d:District)(c:List Claim):dP d c:=Es d c
theorem Et (d:District)(c:List Claim):fN d c:=Es d c
structure Made (d:District)(c:List Claim)(l:List Order):Prop where
 ask:Askd d c
 plan:∃ gs,PL d (ar c) gs∧l=srt aG (ar c++gs)
 lim:Lim d l
end
end Go.Sx
end
section
namespace Go.Sx
open Go.Proofs
set_option maxRecDepth 100000
set_option linter.unusedSimpArgs false
def aM (n:Int)(lo:Int)(hi:Int):Bool:=((decide (n≥lo))&&(decide (n≤hi)))
@[go_sem] def gc:List SV→Option Con:=(pI fun n=>(pI fun lo=>(pI fun hi=>(pE (.det True (.v (.bool (aM n lo hi))))))))
theorem gT:FnOk Tryz.prog 171 gc:=by
 have hG:ConsOk Tryz.prog (mkG [] []):=aC cg0 cg0
 refine aI [.o] mixed ax hG (fn:=Tryz.f171) (c:=aa Tryz.f171) (by kernel_rfl) (by kernel_rfl) (by kernel_rfl) (by kernel_rfl) (b_ fun n=>(b_ fun lo=>(b_ fun hi=>(aB (fun hp=>?_)))))
 dsimp only[aD]at hp
 refine⟨Nat.le_of_ble_eq_true rfl,L0,ak _,?_⟩
 ·unfold aa Tryz.f171
  try unfold aM
  simp only[go_sem,Nat.reduceBEq,Nat.reduceLeDiff,Nat.reduceLT,decide_true,Nat.reduceAdd,Nat.reduceSub,Nat.reduceMul,Int.reduceLE,Int.reduceLT,Int.reduceToNat,Int.reduceNeg,reduceCtorEq]
  all_goals exact cl
@[go_sem] def fo (b:Int)(k_0:Nat)(s_0:Int×Int):Int⊕(Int×Int):=(bif(decide (s_0.2 > 0))then .inr (s_0.2,(Int.tmod s_0.1 s_0.2))else .inl s_0.1)
def jN (b:Int)(k_0:Nat)(s_0:Int×Int):Prop:=((decide (s_0.2 > 0))=true→s_0.2≠0)
def jh (a:Int)(b:Int):Int:=(match ap (fo b) (Int.toNat b+1) 0 (a,b)with| .inl x_0_0=>x_0_0| .inr s_0=>default)
def jw (a:Int)(b:Int):Prop:=(okI (fo b) (jN b) (Int.toNat b+1) 0 (a,b)∧(∀ z_,ap (fo b) (Int.toNat b+1) 0 (a,b)≠ .inr z_))
@[go_sem] def qB:List SV→Option Con:=(pI fun a=>(pI fun b=>(pE (.det (jw a b) (.v (.int .i64 (jh a b)))))))
theorem wD:FnOk Tryz.prog 199 qB:=by
 have hG:ConsOk Tryz.prog (mkG [] []):=aC cg0 cg0
 refine aI [.o] mixed ax hG (fn:=Tryz.f199) (c:=aa Tryz.f199) (by kernel_rfl) (by kernel_rfl) (by kernel_rfl) (by kernel_rfl) (b_ fun a=>(b_ fun b=>(aB (fun hp=>?_))))
 dsimp only[aD]at hp
 unfold jw at hp
 refine⟨Nat.le_of_ble_eq_true rfl,(fun id st=>bif Nat.beq id 0 then some (LCV (ρ:=Int) (σ:=(Int×Int)) 0 [] [] (fun k_0 s_0=>⟨[(0,.v (.int .i64 s_0.1)),(1,.v (.int .i64 s_0.2))],[]⟩) (fo b) (jN b) (Int.toNat b+1) (a,b) (fun _=>.normal) (fun x_0_0=>⟨[(0,.v (.int .i64 x_0_0))],[]⟩) st)else none),?_,?_⟩
 ·unfold aa Tryz.f199
  simp only[ay,true_and,and_true]
  ·refine ii mixed ax hG (by kernel_rfl) (fun _=>rfl) fun k_0 s_0 hq0=>⟨L0,ak _,?_⟩
   ·unfold jN at hq0
    exact DV
 ·unfold aa Tryz.f199
  try unfold jh
  simp only[go_sem,Nat.reduceBEq,Nat.reduceLeDiff,Nat.reduceLT,decide_true,Nat.reduceAdd,Nat.reduceSub,Nat.reduceMul,Int.reduceLE,Int.reduceLT,Int.reduceToNat,Int.reduceNeg,reduceCtorEq]
  all_goals exact cl
def lp (n:Int):Int:=(bif(decide (n<0))then(IntKind.i64.wrap (0 - n))else n)
@[go_sem] def vz:List SV→Option Con:=(pI fun n=>(pE (.det True (.v (.int .i64 (lp n))))))
theorem AC:FnOk Tryz.prog 200 vz:=by
 have hG:ConsOk Tryz.prog (mkG [] []):=aC cg0 cg0
 refine aI [.o] mixed ax hG (fn:=Tryz.f200) (c:=aa Tryz.f200) (by kernel_rfl) (by kernel_rfl) (by kernel_rfl) (by kernel_rfl) (b_ fun n=>(aB (fun hp=>?_)))
 dsimp only[aD]at hp
 refine⟨Nat.le_of_ble_eq_true rfl,L0,ak _,?_⟩
 ·unfold aa Tryz.f200
  try unfold lp
  simp only[go_sem,Nat.reduceBEq,Nat.reduceLeDiff,Nat.reduceLT,decide_true,Nat.reduceAdd,Nat.reduceSub,Nat.reduceMul,Int.reduceLE,Int.reduceLT,Int.reduceToNat,Int.reduceNeg,reduceCtorEq]
  all_goals exact cl
def eb (a:Ratio):Bool:=(((((decide (a.d≥1))&&(decide (a.d≤1073741824)))&&(decide (a.n≥(-1073741824))))&&(decide (a.n≤1073741824)))&&((jh (lp a.n) a.d) ==1))
def fR (a:Ratio):Prop:=(((((decide (a.d≥1))&&(decide (a.d≤1073741824)))&&(decide (a.n≥(-1073741824))))&&(decide (a.n≤1073741824)))=true→(jw (lp a.n) a.d))
@[go_sem] def lR:List SV→Option Con:=(pD .ratio fun a=>(pE (.det (fR a) (.v (.bool (eb a))))))
theorem ol:FnOk Tryz.prog 196 lR:=by
 have hG:ConsOk Tryz.prog (mkG [(199,qB),(200,vz)] []):=aC (cgc wD (cgc AC cg0)) cg0
 refine aI [.o] mixed ax hG (fn:=Tryz.f196) (c:=aa Tryz.f196) (by kernel_rfl) (by kernel_rfl) (by kernel_rfl) (by kernel_rfl) (aN fun a=>(aB (fun hp=>?_)))
 dsimp only[aD]at hp
 unfold fR at hp
 refine⟨Nat.le_of_ble_eq_true rfl,L0,ak _,?_⟩
 ·unfold aa Tryz.f196
  try unfold eb
  simp only[go_sem,Nat.reduceBEq,Nat.reduceLeDiff,Nat.reduceLT,decide_true,Nat.reduceAdd,Nat.reduceSub,Nat.reduceMul,Int.reduceLE,Int.reduceLT,Int.reduceToNat,Int.reduceNeg,reduceCtorEq]
  all_goals exact cl
def fO (a:Ratio):Int:=(bif(!(eb a))then 120 else 0)
def lT (a:Ratio):Prop:=(fR a)
@[go_sem] def tq:List SV→Option Con:=(pD .ratio fun a=>(pE (.det (lT a) (.v (.int .i64 (fO a))))))
theorem zI:FnOk Tryz.prog 194 tq:=by
 have hG:ConsOk Tryz.prog (mkG [(196,lR)] []):=aC (cgc ol cg0) cg0
 refine aI [.o] mixed ax hG (fn:=Tryz.f194) (c:=aa Tryz.f194) (by kernel_rfl) (by kernel_rfl) (by kernel_rfl) (by kernel_rfl) (aN fun a=>(aB (fun hp=>?_)))
 dsimp only[aD]at hp
 unfold lT at hp
 refine⟨Nat.le_of_ble_eq_true rfl,L0,ak _,?_⟩
 ·unfold aa Tryz.f194
  try unfold fO
  simp only[go_sem,Nat.reduceBEq,Nat.reduceLeDiff,Nat.reduceLT,decide_true,Nat.reduceAdd,Nat.reduceSub,Nat.reduceMul,Int.reduceLE,Int.reduceLT,Int.reduceToNat,Int.reduceNeg,reduceCtorEq]
  all_goals exact cl
def gE (a:Ratio)(b:Ratio):Bool:=(decide ((IntKind.i64.wrap (a.n*b.d)) < (IntKind.i64.wrap (b.n*a.d))))
@[go_sem] def qi:List SV→Option Con:=(pD .ratio fun a=>(pD .ratio fun b=>(pE (.det True (.v (.bool (gE a b)))))))
theorem tt:FnOk Tryz.prog 192 qi:=by
 have hG:ConsOk Tryz.prog (mkG [] []):=aC cg0 cg0
 refine aI [.o] mixed ax hG (fn:=Tryz.f192) (c:=aa Tryz.f192) (by kernel_rfl) (by kernel_rfl) (by kernel_rfl) (by kernel_rfl) (aN fun a=>(aN fun b=>(aB (fun hp=>?_))))
 dsimp only[aD]at hp
 refine⟨Nat.le_of_ble_eq_true rfl,L0,ak _,?_⟩
 ·unfold aa Tryz.f192
  try unfold gE
  simp only[go_sem,Nat.reduceBEq,Nat.reduceLeDiff,Nat.reduceLT,decide_true,Nat.reduceAdd,Nat.reduceSub,Nat.reduceMul,Int.reduceLE,Int.reduceLT,Int.reduceToNat,Int.reduceNeg,reduceCtorEq]
  all_goals exact cl
def lr (a:Ratio)(b:Ratio):Bool:=((eb a)&&(eb b))
def nv (a:Ratio)(b:Ratio):Prop:=((fR a)∧((eb a)=true→(fR b)))
@[go_sem] def vA:List SV→Option Con:=(pD .ratio fun a=>(pD .ratio fun b=>(pE (.det (nv a b) (.v (.bool (lr a b)))))))
theorem AD:FnOk Tryz.prog 198 vA:=by
 have hG:ConsOk Tryz.prog (mkG [(196,lR)] []):=aC (cgc ol cg0) cg0
 refine aI [.o] mixed ax hG (fn:=Tryz.f198) (c:=aa Tryz.f198) (by kernel_rfl) (by kernel_rfl) (by kernel_rfl) (by kernel_rfl) (aN fun a=>(aN fun b=>(aB (fun hp=>?_))))
 dsimp only[aD]at hp
 unfold nv at hp
 refine⟨Nat.le_of_ble_eq_true rfl,L0,ak _,?_⟩
 ·unfold aa Tryz.f198
  try unfold lr
  simp only[go_sem,Nat.reduceBEq,Nat.reduceLeDiff,Nat.reduceLT,decide_true,Nat.reduceAdd,Nat.reduceSub,Nat.reduceMul,Int.reduceLE,Int.reduceLT,Int.reduceToNat,Int.reduceNeg,reduceCtorEq]
  all_goals exact cl
def jZ (a:Ratio)(b:Ratio):Int×Int:=(bif(!(lr a b))then(0,120)else(bif(gE a b)then((-1),0)else(bif(gE b a)then(1,0)else(0,0))))
def rZ (a:Ratio)(b:Ratio):Prop:=(nv a b)
@[go_sem] def xa:List SV→Option Con:=(pD .ratio fun a=>(pD .ratio fun b=>(pE (.det (rZ a b) (.tup [.v (.int .i64 ((jZ a b).1)),.v (.int .i64 ((jZ a b).2))])))))
theorem CJ:FnOk Tryz.prog 195 xa:=by
 have hG:ConsOk Tryz.prog (mkG [(192,qi),(198,vA)] []):=aC (cgc tt (cgc AD cg0)) cg0
 refine aI [.o,.o] mixed ax hG (fn:=Tryz.f195) (c:=aa Tryz.f195) (by kernel_rfl) (by kernel_rfl) (by kernel_rfl) (by kernel_rfl) (aN fun a=>(aN fun b=>(aB (fun hp=>?_))))
 dsimp only[aD]at hp
 unfold rZ at hp
 refine⟨Nat.le_of_ble_eq_true rfl,L0,ak _,?_⟩
 ·unfold aa Tryz.f195
  try unfold jZ
  simp only[go_sem,Nat.reduceBEq,Nat.reduceLeDiff,Nat.reduceLT,decide_true,Nat.reduceAdd,Nat.reduceSub,Nat.reduceMul,Int.reduceLE,Int.reduceLT,Int.reduceToNat,Int.reduceNeg,reduceCtorEq]
  all_goals exact cl
def eA (x:Ratio×Ratio):Bool:=(bif(((fO x.1) !=0) ||((fO x.2) !=0))then false else(((decide (x.1.n≥0))&&(decide ((jZ x.1 x.2).1≤0)))&&(decide (x.2.n≤x.2.d))))
def kE (x:Ratio×Ratio):Prop:=((lT x.1)∧((((fO x.1) !=0)=false→(lT x.2))∧((((fO x.1) !=0) ||((fO x.2) !=0))=false→(rZ x.1 x.2))))
@[go_sem] def r6:List SV→Option Con:=(pD .ratio2 fun x=>(pE (.det (kE x) (.v (.bool (eA x))))))
theorem xH:FnOk Tryz.prog 189 r6:=by
 have hG:ConsOk Tryz.prog (mkG [(194,tq),(195,xa)] []):=aC (cgc zI (cgc CJ cg0)) cg0
 refine aI [.o] mixed ax hG (fn:=Tryz.f189) (c:=aa Tryz.f189) (by kernel_rfl) (by kernel_rfl) (by kernel_rfl) (by kernel_rfl) (aN fun x=>(aB (fun hp=>?_)))
 dsimp only[aD]at hp
 unfold kE at hp
 refine⟨Nat.le_of_ble_eq_true rfl,L0,ak _,?_⟩
 ·unfold aa Tryz.f189
  try unfold eA
  simp only[go_sem,Nat.reduceBEq,Nat.reduceLeDiff,Nat.reduceLT,decide_true,Nat.reduceAdd,Nat.reduceSub,Nat.reduceMul,Int.reduceLE,Int.reduceLT,Int.reduceToNat,Int.reduceNeg,reduceCtorEq]
  all_goals exact cl
def mA (x:Reach):Bool:=(bif(((!(aM x.delay 1 16)) ||(!(aM x.cap 0 1073741824))) ||(!(aM x.bank 0 1099511627776)))then false else(bif(((!(aM x.siphon 0 (if x.bank<x.cap then x.bank else x.cap))) ||(!(aM x.evap.lo 0 x.evap.hi))) ||(decide (x.evap.hi > 1073741824)))then false else(eA x.seep)))
def lU (x:Reach):Prop:=((((!(aM x.delay 1 16)) ||(!(aM x.cap 0 1073741824))) ||(!(aM x.bank 0 1099511627776)))=false→((((!(aM x.siphon 0 (if x.bank<x.cap then x.bank else x.cap))) ||(!(aM x.evap.lo 0 x.evap.hi))) ||(decide (x.evap.hi > 1073741824)))=false→(kE x.seep)))
@[go_sem] def tu:List SV→Option Con:=(pD .reach fun x=>(pE (.det (lU x) (.v (.bool (mA x))))))
theorem zJ:FnOk Tryz.prog 183 tu:=by
 have hG:ConsOk Tryz.prog (mkG [(171,gc),(189,r6)] []):=aC (cgc gT (cgc xH cg0)) cg0
 refine aI [.o] mixed ax hG (fn:=Tryz.f183) (c:=aa Tryz.f183) (by kernel_rfl) (by kernel_rfl) (by kernel_rfl) (by kernel_rfl) (aN fun x=>(aB (fun hp=>?_)))
 dsimp only[aD]at hp
 unfold lU at hp
 refine⟨Nat.le_of_ble_eq_true rfl,L0,ak _,?_⟩
 ·unfold aa Tryz.f183
  try unfold mA
  simp only[go_sem,Nat.reduceBEq,Nat.reduceLeDiff,Nat.reduceLT,decide_true,Nat.reduceAdd,Nat.reduceSub,Nat.reduceMul,Int.reduceLE,Int.reduceLT,Int.reduceToNat,Int.reduceNeg,reduceCtorEq]
  all_goals exact cl
@[go_sem] def fq (l_:List Reach)(k_0:Nat)(s_0:Unit):Unit⊕Unit:=(bif((((k_0:Int) ==0)&&((l_.getD k_0 (default:Reach)).up !=(-1))) ||((decide ((k_0:Int) > 0))&&(!(aM ((l_.getD k_0 (default:Reach)).up) 0 (IntKind.i64.wrap ((k_0:Int) - 1))))))then .inl ()else(bif(!(mA (l_.getD k_0 (default:Reach))))then .inl ()else .inr ()))
def jO (l_:List Reach)(k_0:Nat)(s_0:Unit):Prop:=(l_.length≤a7→(((((k_0:Int) ==0)&&((l_.getD k_0 (default:Reach)).up !=(-1))) ||((decide ((k_0:Int) > 0))&&(!(aM ((l_.getD k_0 (default:Reach)).up) 0 (IntKind.i64.wrap ((k_0:Int) - 1))))))=false→(lU (l_.getD k_0 (default:Reach)))))
def ji (l_:List Reach):Bool:=(match ap (fq l_) l_.length 0 ()with| .inl x_0_0=>false| .inr s_0=>(decide ((l_.length:Int) > 0)))
def mQ (l_:List Reach):Prop:=okI (fq l_) (jO l_) l_.length 0 ()
@[go_sem] def qC:List SV→Option Con:=(pR .reach fun l_=>(pE (.det (mQ l_) (.v (.bool (ji l_))))))
theorem wE:FnOk Tryz.prog 172 qC:=by
 have hG:ConsOk Tryz.prog (mkG [(171,gc),(183,tu)] []):=aC (cgc gT (cgc zJ cg0)) cg0
 refine aI [.o] mixed ax hG (fn:=Tryz.f172) (c:=aa Tryz.f172) (by kernel_rfl) (by kernel_rfl) (by kernel_rfl) (by kernel_rfl) (cj fun l_=>(aB (fun hp=>?_)))
 dsimp only[aD]at hp
 unfold mQ at hp
 refine⟨Nat.le_of_ble_eq_true rfl,(fun id st=>bif Nat.beq id 0 then some (LCR (ρ:=Unit) (σ:=Unit) 0 [] [] (fun k_0 s_0=>⟨[(0,.rs .reach l_),(3,.v (.int .i64 (k_0:Int)))],[]⟩) (fq l_) (jO l_) l_.length () (True) (fun _=>.ret) (fun x_0_0=>⟨[(2,.v (.bool false))],[]⟩) st)else none),?_,?_⟩
 ·unfold aa Tryz.f172
  simp only[ay,true_and,and_true]
  ·refine dL (l_.length≤a7) mixed ax hG (by kernel_rfl) (fun _=>rfl) (l_.length:Int) rfl g7 (fun hb0 k_0 s_0 hlt0 hq0 hw hc=>⟨L0,ak _,?_⟩) (fun hb0 s_0 hc=>?_) fun hb0 k_0 s_0=>?_
   ·unfold jO at hq0
    try simp only[hw,Int.toNat_natCast]at hq0
    exact mt
   ·exact mu
   ·simp only[go_sem,Nat.reduceBEq,Nat.reduceLeDiff,Nat.reduceLT,decide_true,Nat.reduceAdd,Nat.reduceSub,Nat.reduceMul,Int.reduceLE,Int.reduceLT,Int.reduceToNat,Int.reduceNeg,reduceCtorEq,hb0]
 ·unfold aa Tryz.f172
  try unfold ji
  simp only[go_sem,Nat.reduceBEq,Nat.reduceLeDiff,Nat.reduceLT,decide_true,Nat.reduceAdd,Nat.reduceSub,Nat.reduceMul,Int.reduceLE,Int.reduceLT,Int.reduceToNat,Int.reduceNeg,reduceCtorEq]
  all_goals exact cl
@[go_sem] def im (a0:District)(k_0:Nat)(s_0:Unit):Unit⊕Unit:=(bif(!(aM ((a0.crops.getD k_0 (default:Crop)).need) 0 1048576))then .inl ()else .inr ())
@[go_sem] def io (a0:District)(k_1:Nat)(s_1:Unit):Unit⊕Unit:=(bif((!(aM ((a0.farms.getD k_1 (default:Farm)).reach) 0 (IntKind.i64.wrap ((a0.reaches.length:Int) - 1)))) ||(!(aM ((a0.farms.getD k_1 (default:Farm)).area) 0 1048576)))then .inl ()else(bif((((a0.farms.getD k_1 (default:Farm)).area==0)&&((a0.farms.getD k_1 (default:Farm)).crop !=(-1))) ||((decide ((a0.farms.getD k_1 (default:Farm)).area > 0))&&(!(aM ((a0.farms.getD k_1 (default:Farm)).crop) 0 (IntKind.i64.wrap ((a0.crops.length:Int) - 1))))))then .inl ()else .inr ()))
def mB (a0:District):Bool:=(match ap (im a0) a0.crops.length 0 ()with| .inl x_0_0=>false| .inr s_0=>(match ap (io a0) a0.farms.length 0 ()with| .inl x_1_0=>false| .inr s_1=>true))
@[go_sem] def tv:List SV→Option Con:=(pD .district fun a0=>(pE (.det True (.v (.bool (mB a0))))))
theorem zK:FnOk Tryz.prog 173 tv:=by
 have hG:ConsOk Tryz.prog (mkG [(171,gc)] []):=aC (cgc gT cg0) cg0
 refine aI [.o] mixed ax hG (fn:=Tryz.f173) (c:=aa Tryz.f173) (by kernel_rfl) (by kernel_rfl) (by kernel_rfl) (by kernel_rfl) (aN fun a0=>(aB (fun hp=>?_)))
 dsimp only[aD]at hp
 refine⟨Nat.le_of_ble_eq_true rfl,(fun id st=>bif Nat.beq id 0 then some (LCR (ρ:=Unit) (σ:=Unit) 1 [] [0] (fun k_0 s_0=>⟨[(1,.ptr 0 0),(3,.v (.int .i64 (k_0:Int)))],[.cells (cellsOf .district a0)]⟩) (im a0) pT a0.crops.length () (True) (fun _=>.ret) (fun x_0_0=>⟨[(2,.v (.bool false))],[.dead]⟩) st)else bif Nat.beq id 2 then some (LCR (ρ:=Unit) (σ:=Unit) 1 [] [0] (fun k_1 s_1=>⟨[(1,.ptr 0 0),(4,.v (.int .i64 (k_1:Int)))],[.cells (cellsOf .district a0)]⟩) (io a0) pT a0.farms.length () (True) (fun _=>.ret) (fun x_1_0=>⟨[(2,.v (.bool false))],[.dead]⟩) st)else none),?_,?_⟩
 ·unfold aa Tryz.f173
  simp only[ay,true_and,and_true]
  refine⟨?_,?_⟩
  ·refine dL (a0.crops.length≤a7) mixed ax hG (by kernel_rfl) (fun _=>rfl) (a0.crops.length:Int) rfl g7 (fun hb0 k_0 s_0 hlt0 _ hw hc=>⟨L0,ak _,?_⟩) (fun hb0 s_0 hc=>?_) fun hb0 k_0 s_0=>?_
   ·exact fv
   ·exact fw
   ·simp only[go_sem,Nat.reduceBEq,Nat.reduceLeDiff,Nat.reduceLT,decide_true,Nat.reduceAdd,Nat.reduceSub,Nat.reduceMul,Int.reduceLE,Int.reduceLT,Int.reduceToNat,Int.reduceNeg,reduceCtorEq,hb0]
  ·refine dL (a0.farms.length≤a7) mixed ax hG (by kernel_rfl) (fun _=>rfl) (a0.farms.length:Int) rfl g7 (fun hb1 k_1 s_1 hlt1 _ hw hc=>⟨L0,ak _,?_⟩) (fun hb1 s_1 hc=>?_) fun hb1 k_1 s_1=>?_
   ·exact fv
   ·exact fw
   ·simp only[go_sem,Nat.reduceBEq,Nat.reduceLeDiff,Nat.reduceLT,decide_true,Nat.reduceAdd,Nat.reduceSub,Nat.reduceMul,Int.reduceLE,Int.reduceLT,Int.reduceToNat,Int.reduceNeg,reduceCtorEq,hb1]
 ·unfold aa Tryz.f173
  try unfold mB
  simp only[go_sem,Nat.reduceBEq,Nat.reduceLeDiff,Nat.reduceLT,decide_true,Nat.reduceAdd,Nat.reduceSub,Nat.reduceMul,Int.reduceLE,Int.reduceLT,Int.reduceToNat,Int.reduceNeg,reduceCtorEq]
  all_goals exact cl
def mC (a0:District)(a1:Right):Bool:=(bif((((!(aM a1.farm 0 (IntKind.i64.wrap ((a0.farms.length:Int) - 1)))) ||(!(aM a1.reach 0 (IntKind.i64.wrap ((a0.reaches.length:Int) - 1))))) ||(!(aM a1.since 0 a1.to))) ||(decide (a1.to≥a0.hours)))then false else(bif(a1.kind==1)then(((((a1.reach==0)&&(aM a1.rank 0 1048576))&&(aM a1.litres 1 1073741824))&&(aM a1.length 1 a1.every))&&(decide (a1.every≤a0.hours)))else(bif(a1.kind==2)then((((((a1.rank==0)&&(a1.litres==0))&&(a1.every==0))&&(a1.length==0))&&(a1.since==0))&&(a1.to==(IntKind.i64.wrap (a0.hours - 1))))else(bif(a1.kind==3)then((((a1.rank==0)&&(a1.litres==0))&&(a1.every==0))&&(a1.length==0))else false))))
@[go_sem] def tw:List SV→Option Con:=(pD .district fun a0=>(pD .right fun a1=>(pE (.det True (.v (.bool (mC a0 a1)))))))
theorem zL:FnOk Tryz.prog 174 tw:=by
 have hG:ConsOk Tryz.prog (mkG [(171,gc)] []):=aC (cgc gT cg0) cg0
 refine aI [.o] mixed ax hG (fn:=Tryz.f174) (c:=aa Tryz.f174) (by kernel_rfl) (by kernel_rfl) (by kernel_rfl) (by kernel_rfl) (aN fun a0=>(aN fun a1=>(aB (fun hp=>?_))))
 dsimp only[aD]at hp
 refine⟨Nat.le_of_ble_eq_true rfl,L0,ak _,?_⟩
 ·unfold aa Tryz.f174
  try unfold mC
  simp only[go_sem,Nat.reduceBEq,Nat.reduceLeDiff,Nat.reduceLT,decide_true,Nat.reduceAdd,Nat.reduceSub,Nat.reduceMul,Int.reduceLE,Int.reduceLT,Int.reduceToNat,Int.reduceNeg,reduceCtorEq]
  all_goals exact cl
@[go_sem] def ip (a0:District)(k_0:Nat)(s_0:Unit):Unit⊕Unit:=(bif(!(mC a0 (a0.rights.getD k_0 (default:Right))))then .inl ()else .inr ())
@[go_sem] def iq (a0:District)(k_1:Nat)(s_1:Unit):Unit⊕Unit:=(bif(((!(aM ((a0.duties.getD k_1 (default:Duty)).farm) 0 (IntKind.i64.wrap ((a0.farms.length:Int) - 1)))) ||(!(aM ((a0.duties.getD k_1 (default:Duty)).reach) 0 (IntKind.i64.wrap ((a0.reaches.length:Int) - 1))))) ||(!(aM ((a0.duties.getD k_1 (default:Duty)).due) 0 a0.hours)))then .inl ()else .inr ())
def j3 (a0:District):Bool:=(bif(((!(aM a0.hours 1 4096)) ||(!(aM a0.tank.start 0 a0.tank.cap))) ||(decide (a0.tank.cap > 1099511627776)))then false else(bif((!(ji a0.reaches)) ||(!(mB a0)))then false else(match ap (ip a0) a0.rights.length 0 ()with| .inl x_0_0=>false| .inr s_0=>(match ap (iq a0) a0.duties.length 0 ()with| .inl x_1_0=>false| .inr s_1=>true))))
def lV (a0:District):Prop:=((((!(aM a0.hours 1 4096)) ||(!(aM a0.tank.start 0 a0.tank.cap))) ||(decide (a0.tank.cap > 1099511627776)))=false→(mQ a0.reaches))
@[go_sem] def tx:List SV→Option Con:=(pD .district fun a0=>(pE (.det (lV a0) (.v (.bool (j3 a0))))))
theorem zM:FnOk Tryz.prog 148 tx:=by
 have hG:ConsOk Tryz.prog (mkG [(171,gc),(172,fun l=>qC (cn [.sl .reach] l)),(173,fun l=>tv (cn [.st .district] l)),(174,fun l=>tw (cn [.st .district,.st .right] l))] []):=aC (cgc gT (cgc (wE.norm [.sl .reach]) (cgc (zK.norm [.st .district]) (cgc (zL.norm [.st .district,.st .right]) cg0)))) cg0
 refine aI [.o] mixed ax hG (fn:=Tryz.f148) (c:=aa Tryz.f148) (by kernel_rfl) (by kernel_rfl) (by kernel_rfl) (by kernel_rfl) (aN fun a0=>(aB (fun hp=>?_)))
 dsimp only[aD]at hp
 unfold lV at hp
 refine⟨Nat.le_of_ble_eq_true rfl,(fun id st=>bif Nat.beq id 0 then some (LCR (ρ:=Unit) (σ:=Unit) 1 [] [0] (fun k_0 s_0=>⟨[(1,.ptr 0 0),(3,.v (.int .i64 (k_0:Int)))],[.cells (cellsOf .district a0)]⟩) (ip a0) pT a0.rights.length () (True) (fun _=>.ret) (fun x_0_0=>⟨[(2,.v (.bool false))],[.dead]⟩) st)else bif Nat.beq id 2 then some (LCR (ρ:=Unit) (σ:=Unit) 1 [] [0] (fun k_1 s_1=>⟨[(1,.ptr 0 0),(4,.v (.int .i64 (k_1:Int)))],[.cells (cellsOf .district a0)]⟩) (iq a0) pT a0.duties.length () (True) (fun _=>.ret) (fun x_1_0=>⟨[(2,.v (.bool false))],[.dead]⟩) st)else none),?_,?_⟩
 ·unfold aa Tryz.f148
  simp only[ay,true_and,and_true]
  refine⟨?_,?_⟩
  ·refine dL (a0.rights.length≤a7) mixed ax hG (by kernel_rfl) (fun _=>rfl) (a0.rights.length:Int) rfl g7 (fun hb0 k_0 s_0 hlt0 _ hw hc=>⟨L0,ak _,?_⟩) (fun hb0 s_0 hc=>?_) fun hb0 k_0 s_0=>?_
   ·exact fv
   ·exact fw
   ·simp only[go_sem,Nat.reduceBEq,Nat.reduceLeDiff,Nat.reduceLT,decide_true,Nat.reduceAdd,Nat.reduceSub,Nat.reduceMul,Int.reduceLE,Int.reduceLT,Int.reduceToNat,Int.reduceNeg,reduceCtorEq,hb0]
  ·refine dL (a0.duties.length≤a7) mixed ax hG (by kernel_rfl) (fun _=>rfl) (a0.duties.length:Int) rfl g7 (fun hb1 k_1 s_1 hlt1 _ hw hc=>⟨L0,ak _,?_⟩) (fun hb1 s_1 hc=>?_) fun hb1 k_1 s_1=>?_
   ·exact fv
   ·exact fw
   ·simp only[go_sem,Nat.reduceBEq,Nat.reduceLeDiff,Nat.reduceLT,decide_true,Nat.reduceAdd,Nat.reduceSub,Nat.reduceMul,Int.reduceLE,Int.reduceLT,Int.reduceToNat,Int.reduceNeg,reduceCtorEq,hb1]
 ·unfold aa Tryz.f148
  try unfold j3
  simp only[go_sem,Nat.reduceBEq,Nat.reduceLeDiff,Nat.reduceLT,decide_true,Nat.reduceAdd,Nat.reduceSub,Nat.reduceMul,Int.reduceLE,Int.reduceLT,Int.reduceToNat,Int.reduceNeg,reduceCtorEq]
  all_goals exact cl
def dQ (d:District):Int:=(bif(((((decide ((d.reaches.length:Int) > 64)) ||(decide ((d.farms.length:Int) > 600))) ||(decide ((d.crops.length:Int) > 32))) ||(decide ((d.rights.length:Int) > 256))) ||(decide ((d.duties.length:Int) > 256)))then 2 else(bif(!(j3 d))then 191 else 0))
def jk (d:District):Prop:=(d.reaches.length≤a7→((((((decide ((d.reaches.length:Int) > 64)) ||(decide ((d.farms.length:Int) > 600))) ||(decide ((d.crops.length:Int) > 32))) ||(decide ((d.rights.length:Int) > 256))) ||(decide ((d.duties.length:Int) > 256)))=false→(lV d)))
@[go_sem] def oW:List SV→Option Con:=(pD .district fun d=>(pE (.det (jk d) (.v (.int .i64 (dQ d))))))
theorem r7:FnOk Tryz.prog 114 oW:=by
 have hG:ConsOk Tryz.prog (mkG [(148,fun l=>tx (cn [.st .district] l))] []):=aC (cgc (zM.norm [.st .district]) cg0) cg0
 refine aI [.o] mixed ax hG (fn:=Tryz.f114) (c:=aa Tryz.f114) (by kernel_rfl) (by kernel_rfl) (by kernel_rfl) (by kernel_rfl) (aN fun d=>(aB (fun hp=>?_)))
 dsimp only[aD]at hp
 unfold jk at hp
 refine⟨Nat.le_of_ble_eq_true rfl,L0,ak _,?_⟩
 ·unfold aa Tryz.f114
  try unfold dQ
  simp only[go_sem,Nat.reduceBEq,Nat.reduceLeDiff,Nat.reduceLT,decide_true,Nat.reduceAdd,Nat.reduceSub,Nat.reduceMul,Int.reduceLE,Int.reduceLT,Int.reduceToNat,Int.reduceNeg,reduceCtorEq]
  all_goals exact cl
end Go.Sx
end
section
namespace Go.Sx
open Go.Proofs
set_option maxRecDepth 100000
set_option linter.unusedSimpArgs false
theorem vB {p:Prop}(h:p:=by simp only[go_sem,Nat.reduceBEq,Nat.reduceLeDiff,Nat.reduceLT,decide_true,Nat.reduceAdd,Nat.reduceSub,Nat.reduceMul,Int.reduceLE,Int.reduceLT,Int.reduceToNat,Int.reduceNeg,reduceCtorEq];all_goals exact ij):p:=h
def kF (x:Range)(most:Int):Bool:=(((decide (x.lo≥0))&&(decide (x.lo≤x.hi)))&&(decide (x.hi≤most)))
@[go_sem] def r8:List SV→Option Con:=(pD .range fun x=>(pI fun most=>(pE (.det True (.v (.bool (kF x most)))))))
theorem xI:FnOk Tryz.prog 186 r8:=by
 have hG:ConsOk Tryz.prog (mkG [] []):=aC cg0 cg0
 refine aI [.o] mixed ax hG (fn:=Tryz.f186) (c:=aa Tryz.f186) (by kernel_rfl) (by kernel_rfl) (by kernel_rfl) (by kernel_rfl) (aN fun x=>(b_ fun most=>(aB (fun hp=>?_))))
 dsimp only[aD]at hp
 refine⟨Nat.le_of_ble_eq_true rfl,L0,ak _,?_⟩
 ·unfold aa Tryz.f186
  try unfold kF
  simp only[go_sem,Nat.reduceBEq,Nat.reduceLeDiff,Nat.reduceLT,decide_true,Nat.reduceAdd,Nat.reduceSub,Nat.reduceMul,Int.reduceLE,Int.reduceLT,Int.reduceToNat,Int.reduceNeg,reduceCtorEq]
  all_goals exact cl
def gq (a:Ratio):Bool:=(((eb a)&&(decide (a.n≥0)))&&(decide (a.n≤a.d)))
def lW (a:Ratio):Prop:=(fR a)
@[go_sem] def tz:List SV→Option Con:=(pD .ratio fun a=>(pE (.det (lW a) (.v (.bool (gq a))))))
theorem zN:FnOk Tryz.prog 191 tz:=by
 have hG:ConsOk Tryz.prog (mkG [(196,lR)] []):=aC (cgc ol cg0) cg0
 refine aI [.o] mixed ax hG (fn:=Tryz.f191) (c:=aa Tryz.f191) (by kernel_rfl) (by kernel_rfl) (by kernel_rfl) (by kernel_rfl) (aN fun a=>(aB (fun hp=>?_)))
 dsimp only[aD]at hp
 unfold lW at hp
 refine⟨Nat.le_of_ble_eq_true rfl,L0,ak _,?_⟩
 ·unfold aa Tryz.f191
  try unfold gq
  simp only[go_sem,Nat.reduceBEq,Nat.reduceLeDiff,Nat.reduceLT,decide_true,Nat.reduceAdd,Nat.reduceSub,Nat.reduceMul,Int.reduceLE,Int.reduceLT,Int.reduceToNat,Int.reduceNeg,reduceCtorEq]
  all_goals exact cl
def gG (a:Ratio×Ratio):Bool:=(((gq a.1)&&(gq a.2))&&(!(gE a.2 a.1)))
def oo (a:Ratio×Ratio):Prop:=((lW a.1)∧((gq a.1)=true→(lW a.2)))
@[go_sem] def r9:List SV→Option Con:=(pD .ratio2 fun a=>(pE (.det (oo a) (.v (.bool (gG a))))))
theorem xJ:FnOk Tryz.prog 187 r9:=by
 have hG:ConsOk Tryz.prog (mkG [(191,tz),(192,qi)] []):=aC (cgc zN (cgc tt cg0)) cg0
 refine aI [.o] mixed ax hG (fn:=Tryz.f187) (c:=aa Tryz.f187) (by kernel_rfl) (by kernel_rfl) (by kernel_rfl) (by kernel_rfl) (aN fun a=>(aB (fun hp=>?_)))
 dsimp only[aD]at hp
 unfold oo at hp
 refine⟨Nat.le_of_ble_eq_true rfl,L0,ak _,?_⟩
 ·unfold aa Tryz.f187
  try unfold gG
  simp only[go_sem,Nat.reduceBEq,Nat.reduceLeDiff,Nat.reduceLT,decide_true,Nat.reduceAdd,Nat.reduceSub,Nat.reduceMul,Int.reduceLE,Int.reduceLT,Int.reduceToNat,Int.reduceNeg,reduceCtorEq]
  all_goals exact cl
def gu (r:Reach):Bool:=((kF r.evap 1073741824)&&(gG r.seep))
def lX (r:Reach):Prop:=((kF r.evap 1073741824)=true→(oo r.seep))
@[go_sem] def tA:List SV→Option Con:=(pD .reach fun r=>(pE (.det (lX r) (.v (.bool (gu r))))))
theorem zO:FnOk Tryz.prog 180 tA:=by
 have hG:ConsOk Tryz.prog (mkG [(186,r8),(187,r9)] []):=aC (cgc xI (cgc xJ cg0)) cg0
 refine aI [.o] mixed ax hG (fn:=Tryz.f180) (c:=aa Tryz.f180) (by kernel_rfl) (by kernel_rfl) (by kernel_rfl) (by kernel_rfl) (aN fun r=>(aB (fun hp=>?_)))
 dsimp only[aD]at hp
 unfold lX at hp
 refine⟨Nat.le_of_ble_eq_true rfl,L0,ak _,?_⟩
 ·unfold aa Tryz.f180
  try unfold gu
  simp only[go_sem,Nat.reduceBEq,Nat.reduceLeDiff,Nat.reduceLT,decide_true,Nat.reduceAdd,Nat.reduceSub,Nat.reduceMul,Int.reduceLE,Int.reduceLT,Int.reduceToNat,Int.reduceNeg,reduceCtorEq]
  all_goals exact cl
def oq (a:Int)(b:Int):Int:=(IntKind.i64.wrap (Int.tdiv (IntKind.i64.wrap ((IntKind.i64.wrap (a+b)) - 1)) b))
def qj (a:Int)(b:Int):Prop:=b≠0
@[go_sem] def zP:List SV→Option Con:=(pI fun a=>(pI fun b=>(pE (.det (qj a b) (.v (.int .i64 (oq a b)))))))
theorem Eu:FnOk Tryz.prog 197 zP:=by
 have hG:ConsOk Tryz.prog (mkG [] []):=aC cg0 cg0
 refine aI [.o] mixed ax hG (fn:=Tryz.f197) (c:=aa Tryz.f197) (by kernel_rfl) (by kernel_rfl) (by kernel_rfl) (by kernel_rfl) (b_ fun a=>(b_ fun b=>(aB (fun hp=>?_))))
 dsimp only[aD]at hp
 unfold qj at hp
 refine⟨Nat.le_of_ble_eq_true rfl,L0,ak _,?_⟩
 ·unfold aa Tryz.f197
  try unfold oq
  simp only[go_sem,Nat.reduceBEq,Nat.reduceLeDiff,Nat.reduceLT,decide_true,Nat.reduceAdd,Nat.reduceSub,Nat.reduceMul,Int.reduceLE,Int.reduceLT,Int.reduceToNat,Int.reduceNeg,reduceCtorEq]
  all_goals exact cl
def lu (r:Reach)(v:Int):Range:=(bif(v==0)then({ lo:=0,hi:=0}:Range)else({ lo:=(if(IntKind.i64.wrap (r.evap.lo+(IntKind.i64.wrap (Int.tdiv (IntKind.i64.wrap (v*r.seep.1.n)) r.seep.1.d)))) <v then(IntKind.i64.wrap (r.evap.lo+(IntKind.i64.wrap (Int.tdiv (IntKind.i64.wrap (v*r.seep.1.n)) r.seep.1.d))))else v),hi:=(if(IntKind.i64.wrap (r.evap.hi+(oq (IntKind.i64.wrap (v*r.seep.2.n)) r.seep.2.d))) <v then(IntKind.i64.wrap (r.evap.hi+(oq (IntKind.i64.wrap (v*r.seep.2.n)) r.seep.2.d)))else v)}:Range))
def ny (r:Reach)(v:Int):Prop:=((v==0)=false→(r.seep.1.d≠0∧(qj (IntKind.i64.wrap (v*r.seep.2.n)) r.seep.2.d)))
@[go_sem] def vC:List SV→Option Con:=(pD .reach fun r=>(pI fun v=>(pE (.det (ny r v) (.agg (cellsOf .range (lu r v)))))))
theorem AE:FnOk Tryz.prog 193 vC:=by
 have hG:ConsOk Tryz.prog (mkG [(197,zP)] []):=aC (cgc Eu cg0) cg0
 refine aI [.st .range] mixed ax hG (fn:=Tryz.f193) (c:=aa Tryz.f193) (by kernel_rfl) (by kernel_rfl) (by kernel_rfl) (by kernel_rfl) (aN fun r=>(b_ fun v=>(aB (fun hp=>?_))))
 dsimp only[aD]at hp
 unfold ny at hp
 refine⟨Nat.le_of_ble_eq_true rfl,L0,ak _,?_⟩
 ·unfold aa Tryz.f193
  try unfold lu
  simp only[go_sem,Nat.reduceBEq,Nat.reduceLeDiff,Nat.reduceLT,decide_true,Nat.reduceAdd,Nat.reduceSub,Nat.reduceMul,Int.reduceLE,Int.reduceLT,Int.reduceToNat,Int.reduceNeg,reduceCtorEq]
  all_goals exact cl
def cU (r:Reach)(v:Int)(best:Bool):Int:=(bif best then(IntKind.i64.wrap (v - (lu r v).lo))else(IntKind.i64.wrap (v - (lu r v).hi)))
def jx (r:Reach)(v:Int)(best:Bool):Prop:=(ny r v)
@[go_sem] def qD:List SV→Option Con:=(pD .reach fun r=>(pI fun v=>(pB fun best=>(pE (.det (jx r v best) (.v (.int .i64 (cU r v best))))))))
theorem wG:FnOk Tryz.prog 188 qD:=by
 have hG:ConsOk Tryz.prog (mkG [(193,vC)] []):=aC (cgc AE cg0) cg0
 refine aI [.o] mixed ax hG (fn:=Tryz.f188) (c:=aa Tryz.f188) (by kernel_rfl) (by kernel_rfl) (by kernel_rfl) (by kernel_rfl) (aN fun r=>(b_ fun v=>(Cq fun best=>(aB (fun hp=>?_)))))
 dsimp only[aD]at hp
 unfold jx at hp
 refine⟨Nat.le_of_ble_eq_true rfl,L0,ak _,?_⟩
 ·unfold aa Tryz.f188
  try unfold cU
  simp only[go_sem,Nat.reduceBEq,Nat.reduceLeDiff,Nat.reduceLT,decide_true,Nat.reduceAdd,Nat.reduceSub,Nat.reduceMul,Int.reduceLE,Int.reduceLT,Int.reduceToNat,Int.reduceNeg,reduceCtorEq]
  all_goals exact cl
@[go_sem] def ct (r:Reach)(w:Int)(best:Bool)(k_0:Nat)(s_0:Int×Int):Int⊕(Int×Int):=(bif(decide (s_0.2<s_0.1))then(bif(decide ((cU r (IntKind.i64.wrap (Int.tdiv (IntKind.i64.wrap (s_0.2+s_0.1)) 2)) best)≥w))then .inr ((IntKind.i64.wrap (Int.tdiv (IntKind.i64.wrap (s_0.2+s_0.1)) 2)),s_0.2)else .inr (s_0.1,(IntKind.i64.wrap ((IntKind.i64.wrap (Int.tdiv (IntKind.i64.wrap (s_0.2+s_0.1)) 2))+1))))else .inl s_0.2)
def lv (r:Reach)(w:Int)(best:Bool)(k_0:Nat)(s_0:Int×Int):Prop:=((decide (s_0.2<s_0.1))=true→(jx r (IntKind.i64.wrap (Int.tdiv (IntKind.i64.wrap (s_0.2+s_0.1)) 2)) best))
def fe (r:Reach)(w:Int)(best:Bool):Int:=(bif(decide ((cU r 1073741824 best) <w))then(-1)else(match ap (ct r w best) 64 0 (1073741824,0)with| .inl x_0_0=>x_0_0| .inr s_0=>default))
def lY (r:Reach)(w:Int)(best:Bool):Prop:=((jx r 1073741824 best)∧((decide ((cU r 1073741824 best) <w))=false→(okI (ct r w best) (lv r w best) 64 0 (1073741824,0)∧(∀ z_,ap (ct r w best) 64 0 (1073741824,0)≠ .inr z_))))
@[go_sem] def tB:List SV→Option Con:=(pD .reach fun r=>(pI fun w=>(pB fun best=>(pE (.det (lY r w best) (.v (.int .i64 (fe r w best))))))))
theorem zQ:FnOk Tryz.prog 181 tB:=by
 have hG:ConsOk Tryz.prog (mkG [(188,qD)] []):=aC (cgc wG cg0) cg0
 refine aI [.o] mixed ax hG (fn:=Tryz.f181) (c:=aa Tryz.f181) (by kernel_rfl) (by kernel_rfl) (by kernel_rfl) (by kernel_rfl) (aN fun r=>(b_ fun w=>(Cq fun best=>(aB (fun hp=>?_)))))
 dsimp only[aD]at hp
 unfold lY at hp
 refine⟨Nat.le_of_ble_eq_true rfl,(fun id st=>bif Nat.beq id 0 then some (LCV (ρ:=Int) (σ:=(Int×Int)) 1 [] [0] (fun k_0 s_0=>⟨[(1,.v (.int .i64 w)),(2,.v (.bool best)),(3,.ptr 0 0),(7,.v (.int .i64 s_0.2)),(8,.v (.int .i64 s_0.1))],[.cells (cellsOf .reach r)]⟩) (ct r w best) (lv r w best) 64 (1073741824,0) (fun _=>.normal) (fun x_0_0=>⟨[(7,.v (.int .i64 x_0_0))],[.dead]⟩) st)else none),?_,?_⟩
 ·unfold aa Tryz.f181
  simp only[ay,true_and,and_true]
  ·refine ii mixed ax hG (by kernel_rfl) (fun _=>rfl) fun k_0 s_0 hq0=>⟨L0,ak _,?_⟩
   ·unfold lv at hq0
    exact vB
 ·unfold aa Tryz.f181
  try unfold fe
  simp only[go_sem,Nat.reduceBEq,Nat.reduceLeDiff,Nat.reduceLT,decide_true,Nat.reduceAdd,Nat.reduceSub,Nat.reduceMul,Int.reduceLE,Int.reduceLT,Int.reduceToNat,Int.reduceNeg,reduceCtorEq]
  all_goals exact cl
def ir (r:Reach)(w:Int)(best:Bool):Int×Bool×Int:=(bif(!(gu r))then(0,false,210)else(bif((decide (w<0)) ||(decide (w > 1073741824)))then(0,false,1)else(bif(decide ((fe r w best) <0))then(0,false,0)else((fe r w best),true,0))))
def qk (r:Reach)(w:Int)(best:Bool):Prop:=((lX r)∧((!(gu r))=false→(((decide (w<0)) ||(decide (w > 1073741824)))=false→(lY r w best))))
@[go_sem] def vD:List SV→Option Con:=(pD .reach fun r=>(pI fun w=>(pB fun best=>(pE (.det (qk r w best) (.tup [.v (.int .i64 ((ir r w best).1)),.v (.bool ((ir r w best).2.1)),.v (.int .i64 ((ir r w best).2.2))]))))))
theorem AF:FnOk Tryz.prog 165 vD:=by
 have hG:ConsOk Tryz.prog (mkG [(180,tA),(181,tB)] []):=aC (cgc zO (cgc zQ cg0)) cg0
 refine aI [.o,.o,.o] mixed ax hG (fn:=Tryz.f165) (c:=aa Tryz.f165) (by kernel_rfl) (by kernel_rfl) (by kernel_rfl) (by kernel_rfl) (aN fun r=>(b_ fun w=>(Cq fun best=>(aB (fun hp=>?_)))))
 dsimp only[aD]at hp
 unfold qk at hp
 refine⟨Nat.le_of_ble_eq_true rfl,L0,ak _,?_⟩
 ·unfold aa Tryz.f165
  try unfold ir
  simp only[go_sem,Nat.reduceBEq,Nat.reduceLeDiff,Nat.reduceLT,decide_true,Nat.reduceAdd,Nat.reduceSub,Nat.reduceMul,Int.reduceLE,Int.reduceLT,Int.reduceToNat,Int.reduceNeg,reduceCtorEq]
  all_goals exact cl
def d6 (r:Reach)(w:Int):Int×Bool×Int:=((ir r w false).1,(ir r w false).2.1,(ir r w false).2.2)
def kG (r:Reach)(w:Int):Prop:=(qk r w false)
@[go_sem] def ql:List SV→Option Con:=(pD .reach fun r=>(pI fun w=>(pE (.det (kG r w) (.tup [.v (.int .i64 ((d6 r w).1)),.v (.bool ((d6 r w).2.1)),.v (.int .i64 ((d6 r w).2.2))])))))
theorem tC:FnOk Tryz.prog 137 ql:=by
 have hG:ConsOk Tryz.prog (mkG [(165,vD)] []):=aC (cgc AF cg0) cg0
 refine aI [.o,.o,.o] mixed ax hG (fn:=Tryz.f137) (c:=aa Tryz.f137) (by kernel_rfl) (by kernel_rfl) (by kernel_rfl) (by kernel_rfl) (aN fun r=>(b_ fun w=>(aB (fun hp=>?_))))
 dsimp only[aD]at hp
 unfold kG at hp
 refine⟨Nat.le_of_ble_eq_true rfl,L0,ak _,?_⟩
 ·unfold aa Tryz.f137
  try unfold d6
  simp only[go_sem,Nat.reduceBEq,Nat.reduceLeDiff,Nat.reduceLT,decide_true,Nat.reduceAdd,Nat.reduceSub,Nat.reduceMul,Int.reduceLE,Int.reduceLT,Int.reduceToNat,Int.reduceNeg,reduceCtorEq]
  all_goals exact cl
def b7 (x:Reach)(w:Int):Int×Bool:=(bif(w==0)then(0,true)else(bif(decide (w > 1073741824))then(0,false)else(bif(!(d6 x w).2.1)then(0,false)else((if(d6 x w).1<x.siphon then x.siphon else(d6 x w).1),true))))
def kH (x:Reach)(w:Int):Prop:=((w==0)=false→((decide (w > 1073741824))=false→(kG x w)))
@[go_sem] def sa:List SV→Option Con:=(pD .reach fun x=>(pI fun w=>(pE (.det (kH x w) (.tup [.v (.int .i64 ((b7 x w).1)),.v (.bool ((b7 x w).2))])))))
theorem xK:FnOk Tryz.prog 136 sa:=by
 have hG:ConsOk Tryz.prog (mkG [(137,ql)] []):=aC (cgc tC cg0) cg0
 refine aI [.o,.o] mixed ax hG (fn:=Tryz.f136) (c:=aa Tryz.f136) (by kernel_rfl) (by kernel_rfl) (by kernel_rfl) (by kernel_rfl) (aN fun x=>(b_ fun w=>(aB (fun hp=>?_))))
 dsimp only[aD]at hp
 unfold kH at hp
 refine⟨Nat.le_of_ble_eq_true rfl,L0,ak _,?_⟩
 ·unfold aa Tryz.f136
  try unfold b7
  simp only[go_sem,Nat.reduceBEq,Nat.reduceLeDiff,Nat.reduceLT,decide_true,Nat.reduceAdd,Nat.reduceSub,Nat.reduceMul,Int.reduceLE,Int.reduceLT,Int.reduceToNat,Int.reduceNeg,reduceCtorEq]
  all_goals exact cl
end Go.Sx
end
section
namespace Go.Sx
@[go_sem ↓] theorem Ti (x:Reach):mkE .reach [.v (.string x.name),.v (.int .i64 x.up),.v (.int .i64 x.delay),.v (.int .i64 x.cap),.v (.int .i64 x.bank),.v (.int .i64 x.siphon),.v (.int .i64 x.evap.lo),.v (.int .i64 x.evap.hi),.v (.int .i64 x.seep.1.n),.v (.int .i64 x.seep.1.d),.v (.int .i64 x.seep.2.n),.v (.int .i64 x.seep.2.d)]=x:=(rfl)
@[go_sem ↓] theorem Tj (x:Order):mkE .order [.v (.int .i64 x.hour),.v (.int .i64 x.index),.v (.int .i64 x.litres),.v (.bool x.outlet)]=x:=(rfl)
@[go_sem ↓] theorem Tk (x:Claim):mkE .claim [.v (.int .i64 x.right),.v (.int .i64 x.farm),.v (.int .i64 x.hour),.v (.int .i64 x.litres),.v (.int .i64 x.rank)]=x:=(rfl)
@[go_sem ↓] theorem U4 (x:Tank):mkE .tank [.v (.int .i64 x.cap),.v (.int .i64 x.start)]=x:=(rfl)
end Go.Sx
end
section
namespace Go.Sx
open Go.Proofs
set_option maxRecDepth 100000
set_option linter.unusedSimpArgs false
theorem Ev {p:Prop}(h:p:=by(first|done|(repeat' (first|with_reducible refine And.intro ?_ ?_|((with_reducible show _≠_);first|assumption|omega|(simp_all [aX,bf];done) |grind) |with_reducible intro _)) <;>(first|done|exact Empty.elim ‹Empty› |assumption|rfl|omega|decide|exact fk [0,1] |exact czl|(simp only[*,cond_true,cond_false,Bool.not_true,Bool.not_false,go_sem,Nat.reduceBEq,Nat.reduceLeDiff,Nat.reduceLT,decide_true,Nat.reduceAdd,Nat.reduceSub,Nat.reduceMul,Int.reduceLE,Int.reduceLT,Int.reduceToNat,Int.reduceNeg,reduceCtorEq];(repeat' (first|with_reducible refine And.intro ?_ ?_|((with_reducible show _≠_);first|assumption|omega|(simp_all [aX,bf];done) |grind) |with_reducible intro _)) <;>(first|done|assumption|rfl|omega|decide|exact fk [0,1] |(simp_all [aX,bf];done))) |(simp_all [okI,aX,bf];done) |(simp_all [aX,bf];(first|done|exact fk2 [0,1])) |exact fk2 [0,1]))):p:=h
theorem sb {p:Prop}(h:p:=by(first|done|(repeat' (first|with_reducible refine And.intro ?_ ?_|((with_reducible show _≠_);first|assumption|omega|(simp_all [aX,bf];done) |grind) |with_reducible intro _)) <;>(first|done|exact Empty.elim ‹Empty› |assumption|rfl|omega|decide|exact fk [0,1,4] |exact fk [0,1,2] |exact czl|(simp only[*,cond_true,cond_false,Bool.not_true,Bool.not_false,go_sem,Nat.reduceBEq,Nat.reduceLeDiff,Nat.reduceLT,decide_true,Nat.reduceAdd,Nat.reduceSub,Nat.reduceMul,Int.reduceLE,Int.reduceLT,Int.reduceToNat,Int.reduceNeg,reduceCtorEq];(repeat' (first|with_reducible refine And.intro ?_ ?_|((with_reducible show _≠_);first|assumption|omega|(simp_all [aX,bf];done) |grind) |with_reducible intro _)) <;>(first|done|assumption|rfl|omega|decide|exact fk [0,1,4] |exact fk [0,1,2] |(simp_all [aX,bf];done))) |(simp_all [okI,aX,bf];done) |(simp_all [aX,bf];(first|done|exact fk2 [0,1,4] |exact fk2 [0,1,2])) |exact fk2 [0,1,4] |exact fk2 [0,1,2]))):p:=h
theorem Ew {p:Prop}(h:p:=by(first|done|(repeat' (first|with_reducible refine And.intro ?_ ?_|((with_reducible show _≠_);first|assumption|omega|(simp_all [aX,bf];done) |grind) |with_reducible intro _)) <;>(first|done|exact Empty.elim ‹Empty› |assumption|rfl|omega|decide|exact fk [0,1,3] |exact fk [0,1,2] |exact czl|(simp only[*,cond_true,cond_false,Bool.not_true,Bool.not_false,go_sem,Nat.reduceBEq,Nat.reduceLeDiff,Nat.reduceLT,decide_true,Nat.reduceAdd,Nat.reduceSub,Nat.reduceMul,Int.reduceLE,Int.reduceLT,Int.reduceToNat,Int.reduceNeg,reduceCtorEq];(repeat' (first|with_reducible refine And.intro ?_ ?_|((with_reducible show _≠_);first|assumption|omega|(simp_all [aX,bf];done) |grind) |with_reducible intro _)) <;>(first|done|assumption|rfl|omega|decide|exact fk [0,1,3] |exact fk [0,1,2] |(simp_all [aX,bf];done))) |(simp_all [okI,aX,bf];done) |(simp_all [aX,bf];(first|done|exact fk2 [0,1,3] |exact fk2 [0,1,2])) |exact fk2 [0,1,3] |exact fk2 [0,1,2]))):p:=h
theorem Ey {p:Prop}(h:p:=by(first|done|(repeat' (first|with_reducible refine And.intro ?_ ?_|((with_reducible show _≠_);first|assumption|omega|(simp_all [aX,bf];done) |grind) |with_reducible intro _)) <;>(first|done|exact Empty.elim ‹Empty› |assumption|rfl|omega|decide|exact fk [0,1,2,4] |exact fk [0,1,2,3] |exact czl|(simp only[*,cond_true,cond_false,Bool.not_true,Bool.not_false,go_sem,Nat.reduceBEq,Nat.reduceLeDiff,Nat.reduceLT,decide_true,Nat.reduceAdd,Nat.reduceSub,Nat.reduceMul,Int.reduceLE,Int.reduceLT,Int.reduceToNat,Int.reduceNeg,reduceCtorEq];(repeat' (first|with_reducible refine And.intro ?_ ?_|((with_reducible show _≠_);first|assumption|omega|(simp_all [aX,bf];done) |grind) |with_reducible intro _)) <;>(first|done|assumption|rfl|omega|decide|exact fk [0,1,2,4] |exact fk [0,1,2,3] |(simp_all [aX,bf];done))) |(simp_all [okI,aX,bf];done) |(simp_all [aX,bf];(first|done|exact fk2 [0,1,2,4] |exact fk2 [0,1,2,3])) |exact fk2 [0,1,2,4] |exact fk2 [0,1,2,3]))):p:=h
theorem vE {p:Prop}(h:p:=by simp only[go_sem,Nat.reduceBEq,Nat.reduceLeDiff,Nat.reduceLT,decide_true,Nat.reduceAdd,Nat.reduceSub,Nat.reduceMul,Int.reduceLE,Int.reduceLT,Int.reduceToNat,Int.reduceNeg,reduceCtorEq,hc,hw];all_goals exact Ev):p:=h
theorem vF {p:Prop}(h:p:=by simp only[go_sem,Nat.reduceBEq,Nat.reduceLeDiff,Nat.reduceLT,decide_true,Nat.reduceAdd,Nat.reduceSub,Nat.reduceMul,Int.reduceLE,Int.reduceLT,Int.reduceToNat,Int.reduceNeg,reduceCtorEq,hc];all_goals exact Ev):p:=h
theorem Ez {p:Prop}(h:p:=by simp only[go_sem,Nat.reduceBEq,Nat.reduceLeDiff,Nat.reduceLT,decide_true,Nat.reduceAdd,Nat.reduceSub,Nat.reduceMul,Int.reduceLE,Int.reduceLT,Int.reduceToNat,Int.reduceNeg,reduceCtorEq];all_goals exact rR):p:=h
theorem EA {p:Prop}(h:p:=by simp only[go_sem,Nat.reduceBEq,Nat.reduceLeDiff,Nat.reduceLT,decide_true,Nat.reduceAdd,Nat.reduceSub,Nat.reduceMul,Int.reduceLE,Int.reduceLT,Int.reduceToNat,Int.reduceNeg,reduceCtorEq,hc,hw];all_goals exact Ew):p:=h
theorem EB {p:Prop}(h:p:=by simp only[go_sem,Nat.reduceBEq,Nat.reduceLeDiff,Nat.reduceLT,decide_true,Nat.reduceAdd,Nat.reduceSub,Nat.reduceMul,Int.reduceLE,Int.reduceLT,Int.reduceToNat,Int.reduceNeg,reduceCtorEq,hc];all_goals exact Ew):p:=h
theorem K7 {p:Prop}(h:p:=by simp only[go_sem,Nat.reduceBEq,Nat.reduceLeDiff,Nat.reduceLT,decide_true,Nat.reduceAdd,Nat.reduceSub,Nat.reduceMul,Int.reduceLE,Int.reduceLT,Int.reduceToNat,Int.reduceNeg,reduceCtorEq,hc,hw];all_goals exact Ey):p:=h
theorem K8 {p:Prop}(h:p:=by simp only[go_sem,Nat.reduceBEq,Nat.reduceLeDiff,Nat.reduceLT,decide_true,Nat.reduceAdd,Nat.reduceSub,Nat.reduceMul,Int.reduceLE,Int.reduceLT,Int.reduceToNat,Int.reduceNeg,reduceCtorEq,hc];all_goals exact Ey):p:=h
def mD (d:District)(x:Order):Bool:=(bif(((((decide (x.hour<0)) ||(decide (x.hour≥d.hours))) ||(decide (x.litres<1))) ||(decide (x.litres > 1073741824))) ||(decide (x.index<0)))then false else(bif x.outlet then(decide (x.index< (d.farms.length:Int)))else(decide (x.index< (d.reaches.length:Int)))))
@[go_sem] def tD:List SV→Option Con:=(pD .district fun d=>(pD .order fun x=>(pE (.det True (.v (.bool (mD d x)))))))
theorem zR:FnOk Tryz.prog 133 tD:=by
 have hG:ConsOk Tryz.prog (mkG [] []):=aC cg0 cg0
 refine aI [.o] mixed ax hG (fn:=Tryz.f133) (c:=aa Tryz.f133) (by kernel_rfl) (by kernel_rfl) (by kernel_rfl) (by kernel_rfl) (aN fun d=>(aN fun x=>(aB (fun hp=>?_))))
 dsimp only[aD]at hp
 refine⟨Nat.le_of_ble_eq_true rfl,L0,ak _,?_⟩
 ·unfold aa Tryz.f133
  try unfold mD
  simp only[go_sem,Nat.reduceBEq,Nat.reduceLeDiff,Nat.reduceLT,decide_true,Nat.reduceAdd,Nat.reduceSub,Nat.reduceMul,Int.reduceLE,Int.reduceLT,Int.reduceToNat,Int.reduceNeg,reduceCtorEq]
  all_goals exact cl
def cN (a:Order)(b:Order):Bool:=(bif(a.hour !=b.hour)then(decide (a.hour<b.hour))else(bif(a.outlet !=b.outlet)then b.outlet else(decide (a.index<b.index))))
@[go_sem] def ot:List SV→Option Con:=(pD .order fun a=>(pD .order fun b=>(pE (.det True (.v (.bool (cN a b)))))))
theorem qE:FnOk Tryz.prog 134 ot:=by
 have hG:ConsOk Tryz.prog (mkG [] []):=aC cg0 cg0
 refine aI [.o] mixed ax hG (fn:=Tryz.f134) (c:=aa Tryz.f134) (by kernel_rfl) (by kernel_rfl) (by kernel_rfl) (by kernel_rfl) (aN fun a=>(aN fun b=>(aB (fun hp=>?_))))
 dsimp only[aD]at hp
 refine⟨Nat.le_of_ble_eq_true rfl,L0,ak _,?_⟩
 ·unfold aa Tryz.f134
  try unfold cN
  simp only[go_sem,Nat.reduceBEq,Nat.reduceLeDiff,Nat.reduceLT,decide_true,Nat.reduceAdd,Nat.reduceSub,Nat.reduceMul,Int.reduceLE,Int.reduceLT,Int.reduceToNat,Int.reduceNeg,reduceCtorEq]
  all_goals exact cl
@[go_sem] def eI (d:District)(l_:List Order)(k_0:Nat)(s_0:Unit):Unit⊕Unit:=(bif((!(mD d (l_.getD k_0 (default:Order)))) ||((decide ((k_0:Int) > 0))&&(!(cN (l_.getD (Int.toNat (IntKind.i64.wrap ((k_0:Int) - 1))) (default:Order)) (l_.getD k_0 (default:Order))))))then .inl ()else .inr ())
def lw (d:District)(l_:List Order)(k_0:Nat)(s_0:Unit):Prop:=(l_.length≤a7→((!(mD d (l_.getD k_0 (default:Order))))=false→((decide ((k_0:Int) > 0))=true→(0≤(IntKind.i64.wrap ((k_0:Int) - 1))∧(IntKind.i64.wrap ((k_0:Int) - 1)) < (l_.length:Int)))))
def ff (d:District)(l_:List Order):Int:=(bif((dQ d) !=0)then(dQ d)else(bif(decide ((l_.length:Int) > 4096))then 2 else(match ap (eI d l_) l_.length 0 ()with| .inl x_0_0=>220| .inr s_0=>0)))
def lZ (d:District)(l_:List Order):Prop:=((jk d)∧(((dQ d) !=0)=false→(l_.length≤a7→((decide ((l_.length:Int) > 4096))=false→okI (eI d l_) (lw d l_) l_.length 0 ()))))
@[go_sem] def tE:List SV→Option Con:=(pD .district fun d=>(pR .order fun l_=>(pE (.det (lZ d l_) (.v (.int .i64 (ff d l_)))))))
theorem zS:FnOk Tryz.prog 101 tE:=by
 have hG:ConsOk Tryz.prog (mkG [(114,fun l=>oW (cn [.st .district] l)),(133,fun l=>tD (cn [.st .district,.st .order] l)),(134,ot)] []):=aC (cgc (r7.norm [.st .district]) (cgc (zR.norm [.st .district,.st .order]) (cgc qE cg0))) cg0
 refine aI [.o] mixed ax hG (fn:=Tryz.f101) (c:=aa Tryz.f101) (by kernel_rfl) (by kernel_rfl) (by kernel_rfl) (by kernel_rfl) (aN fun d=>(cj fun l_=>(aB (fun hp=>?_))))
 dsimp only[aD]at hp
 unfold lZ at hp
 refine⟨Nat.le_of_ble_eq_true rfl,(fun id st=>bif Nat.beq id 0 then some (LCR (ρ:=Unit) (σ:=Unit) 1 [] [0] (fun k_0 s_0=>⟨[(1,.rs .order l_),(2,.ptr 0 0),(6,.v (.int .i64 (k_0:Int)))],[.cells (cellsOf .district d)]⟩) (eI d l_) (lw d l_) l_.length () (True) (fun _=>.ret) (fun x_0_0=>⟨[(4,.v (.int .i64 220))],[.dead]⟩) st)else none),?_,?_⟩
 ·unfold aa Tryz.f101
  simp only[ay,true_and,and_true]
  ·refine dL (l_.length≤a7) mixed ax hG (by kernel_rfl) (fun _=>rfl) (l_.length:Int) rfl g7 (fun hb0 k_0 s_0 hlt0 hq0 hw hc=>⟨L0,ak _,?_⟩) (fun hb0 s_0 hc=>?_) fun hb0 k_0 s_0=>?_
   ·unfold lw at hq0
    try simp only[hw,Int.toNat_natCast]at hq0
    exact fv
   ·exact fw
   ·simp only[go_sem,Nat.reduceBEq,Nat.reduceLeDiff,Nat.reduceLT,decide_true,Nat.reduceAdd,Nat.reduceSub,Nat.reduceMul,Int.reduceLE,Int.reduceLT,Int.reduceToNat,Int.reduceNeg,reduceCtorEq,hb0]
 ·unfold aa Tryz.f101
  try unfold ff
  simp only[go_sem,Nat.reduceBEq,Nat.reduceLeDiff,Nat.reduceLT,decide_true,Nat.reduceAdd,Nat.reduceSub,Nat.reduceMul,Int.reduceLE,Int.reduceLT,Int.reduceToNat,Int.reduceNeg,reduceCtorEq]
  all_goals exact cl
def lz (d:District):Bool:=(decide ((IntKind.i64.wrap ((d.reaches.length:Int)*d.hours)) > 1024))
@[go_sem] def vG:List SV→Option Con:=(pD .district fun d=>(pE (.det True (.v (.bool (lz d))))))
theorem AG:FnOk Tryz.prog 102 vG:=by
 have hG:ConsOk Tryz.prog (mkG [] []):=aC cg0 cg0
 refine aI [.o] mixed ax hG (fn:=Tryz.f102) (c:=aa Tryz.f102) (by kernel_rfl) (by kernel_rfl) (by kernel_rfl) (by kernel_rfl) (aN fun d=>(aB (fun hp=>?_)))
 dsimp only[aD]at hp
 refine⟨Nat.le_of_ble_eq_true rfl,L0,ak _,?_⟩
 ·unfold aa Tryz.f102
  try unfold lz
  simp only[go_sem,Nat.reduceBEq,Nat.reduceLeDiff,Nat.reduceLT,decide_true,Nat.reduceAdd,Nat.reduceSub,Nat.reduceMul,Int.reduceLE,Int.reduceLT,Int.reduceToNat,Int.reduceNeg,reduceCtorEq]
  all_goals exact cl
@[go_sem] def ew (d:District)(l_:List Order)(reach:Int)(k_0:Nat)(s_0:List Int):Empty⊕(List Int):=(bif((l_.getD k_0 (default:Order)).outlet&&((d.farms.getD (Int.toNat ((l_.getD k_0 (default:Order)).index)) (default:Farm)).reach==reach))then .inr (s_0.set (Int.toNat ((l_.getD k_0 (default:Order)).hour)) (IntKind.i64.wrap ((s_0.getD (Int.toNat ((l_.getD k_0 (default:Order)).hour)) (0:Int))+(l_.getD k_0 (default:Order)).litres)))else .inr s_0)
def jP (d:District)(l_:List Order)(reach:Int)(k_0:Nat)(s_0:List Int):Prop:=(l_.length≤a7→(((l_.getD k_0 (default:Order)).outlet=true→(0≤(l_.getD k_0 (default:Order)).index∧(l_.getD k_0 (default:Order)).index< (d.farms.length:Int)))∧(((l_.getD k_0 (default:Order)).outlet&&((d.farms.getD (Int.toNat ((l_.getD k_0 (default:Order)).index)) (default:Farm)).reach==reach))=true→((0≤(l_.getD k_0 (default:Order)).hour∧(l_.getD k_0 (default:Order)).hour< (s_0.length:Int))∧(0≤(l_.getD k_0 (default:Order)).hour∧(l_.getD k_0 (default:Order)).hour< (s_0.length:Int))))))
def cG (d:District)(l_:List Order)(reach:Int):List Int:=(match ap (ew d l_ reach) l_.length 0 (List.replicate (Int.toNat d.hours) (0:Int))with| .inl x=>x.elim| .inr s_0=>s_0)
def jy (d:District)(l_:List Order)(reach:Int):Prop:=((d.hours=d.hours∧0≤d.hours∧d.hours*((8:Nat):Int)≤((dE:Nat):Int))∧(d.hours≤((a7:Nat):Int)→okI (ew d l_ reach) (jP d l_ reach) l_.length 0 (List.replicate (Int.toNat d.hours) (0:Int))))
@[go_sem] def qF:List SV→Option Con:=(pD .district fun d=>(pR .order fun l_=>(pI fun reach=>(pE (.det (jy d l_ reach) (.nw .int (cG d l_ reach)))))))
theorem wH:FnOk Tryz.prog 135 qF:=by
 have hG:ConsOk Tryz.prog (mkG [] []):=aC cg0 cg0
 refine p7 true mixed ax hG (fn:=Tryz.f135) (c:=aa Tryz.f135) (by kernel_rfl) (by kernel_rfl) (by kernel_rfl) (by kernel_rfl) (aN fun d=>(cj fun l_=>(b_ fun reach=>(aB (fun hp=>?_)))))
 dsimp only[aD]at hp
 unfold jy at hp
 refine⟨Nat.le_of_ble_eq_true rfl,(fun id st=>bif Nat.beq id 0 then some (LCR (ρ:=Empty) (σ:=(List Int)) 2 [] [0,1] (fun k_0 s_0=>⟨[(1,.rs .order l_),(2,.v (.int .i64 reach)),(3,.ptr 0 0),(7,.os 1),(8,.v (.int .i64 (k_0:Int)))],[.cells (cellsOf .district d),.row .int s_0]⟩) (ew d l_ reach) (jP d l_ reach) l_.length (List.replicate (Int.toNat d.hours) (0:Int)) (True) ((·.elim)) ((·.elim)) st)else none),?_,?_⟩
 ·unfold aa Tryz.f135
  simp only[ay,true_and,and_true]
  ·refine dL (l_.length≤a7) mixed ax hG (by kernel_rfl) (fun _=>rfl) (l_.length:Int) rfl g7 (fun hb0 k_0 s_0 hlt0 hq0 hw hc=>⟨L0,ak _,?_⟩) (fun hb0 s_0 hc=>?_) fun hb0 k_0 s_0=>?_
   ·unfold jP at hq0
    try simp only[hw,Int.toNat_natCast]at hq0
    exact vE
   ·exact vF
   ·simp only[go_sem,Nat.reduceBEq,Nat.reduceLeDiff,Nat.reduceLT,decide_true,Nat.reduceAdd,Nat.reduceSub,Nat.reduceMul,Int.reduceLE,Int.reduceLT,Int.reduceToNat,Int.reduceNeg,reduceCtorEq,hb0]
 ·unfold aa Tryz.f135
  try unfold cG
  simp only[go_sem,Nat.reduceBEq,Nat.reduceLeDiff,Nat.reduceLT,decide_true,Nat.reduceAdd,Nat.reduceSub,Nat.reduceMul,Int.reduceLE,Int.reduceLT,Int.reduceToNat,Int.reduceNeg,reduceCtorEq]
  all_goals exact cl
@[go_sem] def fP (l_:List Order)(x:Order)(k_0:Nat)(s_0:Int):Int⊕Int:=(bif((decide (s_0< (l_.length:Int)))&&(cN (l_.getD (Int.toNat s_0) (default:Order)) x))then .inr (IntKind.i64.wrap (s_0+1))else .inl s_0)
def kI (l_:List Order)(x:Order)(k_0:Nat)(s_0:Int):Prop:=(l_.length≤a7→((decide (s_0< (l_.length:Int)))=true→(0≤s_0∧s_0< (l_.length:Int))))
def nJ (l_:List Order)(x:Order):List Order:=(match ap (fP l_ x) (l_.length+1) 0 0 with| .inl x_0_0=>(((([])++((l_.take (Int.toNat x_0_0)).drop 0))++([x]))++((l_.take (Int.toNat (l_.length:Int))).drop (Int.toNat x_0_0))) | .inr s_0=>default)
def oQ (l_:List Order)(x:Order):Prop:=(okI (fP l_ x) (kI l_ x) (l_.length+1) 0 0∧(∀ z_,ap (fP l_ x) (l_.length+1) 0 0≠ .inr z_)∧(∀ x_0_0,ap (fP l_ x) (l_.length+1) 0 0=.inl x_0_0→((0≤0∧0≤x_0_0∧x_0_0≤(l_.length:Int))∧(((([])++((l_.take (Int.toNat x_0_0)).drop 0)).length*32≤dE)∧((([])++((l_.take (Int.toNat x_0_0)).drop 0)).length≤a7→((((([])++((l_.take (Int.toNat x_0_0)).drop 0))++([x])).length*32≤dE)∧(((([])++((l_.take (Int.toNat x_0_0)).drop 0))++([x])).length≤a7→((0≤x_0_0∧x_0_0≤(l_.length:Int)∧(l_.length:Int)≤(l_.length:Int))∧((((([])++((l_.take (Int.toNat x_0_0)).drop 0))++([x]))++((l_.take (Int.toNat (l_.length:Int))).drop (Int.toNat x_0_0))).length*32≤dE)))))))))
@[go_sem] def xb:List SV→Option Con:=(pR .order fun l_=>(pD .order fun x=>(pE (.det (oQ l_ x) (.nw .order (nJ l_ x))))))
theorem CL:FnOk Tryz.prog 104 xb:=by
 have hG:ConsOk Tryz.prog (mkG [(134,ot)] []):=aC (cgc qE cg0) cg0
 refine p7 true mixed ax hG (fn:=Tryz.f104) (c:=aa Tryz.f104) (by kernel_rfl) (by kernel_rfl) (by kernel_rfl) (by kernel_rfl) (cj fun l_=>(aN fun x=>(aB (fun hp=>?_))))
 dsimp only[aD]at hp
 unfold oQ at hp
 refine⟨Nat.le_of_ble_eq_true rfl,(fun id st=>bif Nat.beq id 0 then some (LCV (ρ:=Int) (σ:=Int) 1 [] [0] (fun k_0 s_0=>⟨[(0,.rs .order l_),(3,.ptr 0 0),(5,.v (.int .i64 s_0))],[.cells (cellsOf .order x)]⟩) (fP l_ x) (kI l_ x) (l_.length+1) 0 (fun _=>.normal) (fun x_0_0=>⟨[(0,.rs .order l_),(3,.ptr 0 0),(5,.v (.int .i64 x_0_0))],[.cells (cellsOf .order x)]⟩) st)else none),?_,?_⟩
 ·unfold aa Tryz.f104
  simp only[ay,true_and,and_true]
  ·refine ii mixed ax hG (by kernel_rfl) (fun _=>rfl) fun k_0 s_0 hq0=>⟨L0,ak _,?_⟩
   ·unfold kI at hq0
    exact vB
 ·unfold aa Tryz.f104
  try unfold nJ
  simp only[go_sem,Nat.reduceBEq,Nat.reduceLeDiff,Nat.reduceLT,decide_true,Nat.reduceAdd,Nat.reduceSub,Nat.reduceMul,Int.reduceLE,Int.reduceLT,Int.reduceToNat,Int.reduceNeg,reduceCtorEq]
  all_goals exact cl
@[go_sem] def cw (a0:District)(s_0:List (List Int)×Int)(s_1:List Int×Int)(k_2:Nat)(s_2:List Int×Int):(List Int)⊕(List Int×Int):=(bif((decide (s_2.2<a0.hours))&&((a0.reaches.getD (Int.toNat s_1.2) (default:Reach)).up==s_0.2))then .inr ((s_2.1.set (Int.toNat s_2.2) (IntKind.i64.wrap ((s_2.1.getD (Int.toNat s_2.2) (0:Int))+(((s_0.1.set (Int.toNat s_0.2) (List.replicate (Int.toNat a0.hours) (0:Int))).getD (Int.toNat s_1.2) []).getD (Int.toNat s_2.2) (0:Int))))),(IntKind.i64.wrap (s_2.2+1)))else .inl s_2.1)
def gH (a0:District)(s_0:List (List Int)×Int)(s_1:List Int×Int)(k_2:Nat)(s_2:List Int×Int):Prop:=(((decide (s_2.2<a0.hours))=true→(0≤s_1.2∧s_1.2< (a0.reaches.length:Int)))∧(((decide (s_2.2<a0.hours))&&((a0.reaches.getD (Int.toNat s_1.2) (default:Reach)).up==s_0.2))=true→((0≤s_2.2∧s_2.2< (s_2.1.length:Int))∧((0≤s_1.2∧s_1.2< ((s_0.1.set (Int.toNat s_0.2) (List.replicate (Int.toNat a0.hours) (0:Int))).length:Int))∧((0≤s_2.2∧s_2.2< (((s_0.1.set (Int.toNat s_0.2) (List.replicate (Int.toNat a0.hours) (0:Int))).getD (Int.toNat s_1.2) []).length:Int))∧(0≤s_2.2∧s_2.2< (s_2.1.length:Int)))))))
@[go_sem] def bL (a0:District)(s_0:List (List Int)×Int)(k_1:Nat)(s_1:List Int×Int):(List Int)⊕(List Int×Int):=(bif(decide (s_1.2< (a0.reaches.length:Int)))then(match ap (cw a0 s_0 s_1) (Int.toNat a0.hours+1) 0 (s_1.1,0)with| .inl x_2_0=>.inr (x_2_0,(IntKind.i64.wrap (s_1.2+1))) | .inr s_2=>.inr default)else .inl s_1.1)
def gI (a0:District)(s_0:List (List Int)×Int)(k_1:Nat)(s_1:List Int×Int):Prop:=(a0.reaches.length≤a7→((decide (s_1.2< (a0.reaches.length:Int)))=true→(okI (cw a0 s_0 s_1) (gH a0 s_0 s_1) (Int.toNat a0.hours+1) 0 (s_1.1,0)∧(∀ z_,ap (cw a0 s_0 s_1) (Int.toNat a0.hours+1) 0 (s_1.1,0)≠ .inr z_))))
@[go_sem] def cg (a0:District)(s_0:List (List Int)×Int)(x_1_0:List Int)(k_3:Nat)(s_3:List (List Int)):Unit⊕(List (List Int)):=(bif((!(b7 (a0.reaches.getD (Int.toNat s_0.2) (default:Reach)) (x_1_0.getD k_3 (0:Int))).2) ||((decide ((b7 (a0.reaches.getD (Int.toNat s_0.2) (default:Reach)) (x_1_0.getD k_3 (0:Int))).1 > 0))&&(decide ((IntKind.i64.wrap ((k_3:Int) - (a0.reaches.getD (Int.toNat s_0.2) (default:Reach)).delay)) <0))))then .inl ()else(bif(decide ((b7 (a0.reaches.getD (Int.toNat s_0.2) (default:Reach)) (x_1_0.getD k_3 (0:Int))).1 > 0))then .inr (s_3.set (Int.toNat s_0.2) ((s_3.getD (Int.toNat s_0.2) []).set (Int.toNat (IntKind.i64.wrap ((k_3:Int) - (a0.reaches.getD (Int.toNat s_0.2) (default:Reach)).delay))) (b7 (a0.reaches.getD (Int.toNat s_0.2) (default:Reach)) (x_1_0.getD k_3 (0:Int))).1))else .inr s_3))
def dJ (a0:District)(s_0:List (List Int)×Int)(x_1_0:List Int)(k_3:Nat)(s_3:List (List Int)):Prop:=((0≤s_0.2∧s_0.2< (a0.reaches.length:Int))∧((0≤(k_3:Int)∧(k_3:Int) < (x_1_0.length:Int))∧((kH (a0.reaches.getD (Int.toNat s_0.2) (default:Reach)) (x_1_0.getD k_3 (0:Int)))∧((0≤s_0.2∧s_0.2< (a0.reaches.length:Int))∧(((!(b7 (a0.reaches.getD (Int.toNat s_0.2) (default:Reach)) (x_1_0.getD k_3 (0:Int))).2) ||((decide ((b7 (a0.reaches.getD (Int.toNat s_0.2) (default:Reach)) (x_1_0.getD k_3 (0:Int))).1 > 0))&&(decide ((IntKind.i64.wrap ((k_3:Int) - (a0.reaches.getD (Int.toNat s_0.2) (default:Reach)).delay)) <0))))=false→((decide ((b7 (a0.reaches.getD (Int.toNat s_0.2) (default:Reach)) (x_1_0.getD k_3 (0:Int))).1 > 0))=true→((0≤s_0.2∧s_0.2< (s_3.length:Int))∧(0≤(IntKind.i64.wrap ((k_3:Int) - (a0.reaches.getD (Int.toNat s_0.2) (default:Reach)).delay))∧(IntKind.i64.wrap ((k_3:Int) - (a0.reaches.getD (Int.toNat s_0.2) (default:Reach)).delay)) < ((s_3.getD (Int.toNat s_0.2) []).length:Int)))))))))
@[go_sem] def bQ (a0:District)(a1:List Order)(k_0:Nat)(s_0:List (List Int)×Int):(Unit⊕(List (List Int)))⊕(List (List Int)×Int):=(bif(decide (s_0.2≥0))then(match ap (bL a0 s_0) (a0.reaches.length+1) 0 ((cG a0 a1 s_0.2),(IntKind.i64.wrap (s_0.2+1)))with| .inl x_1_0=>(match ap (cg a0 s_0 x_1_0) (Int.toNat a0.hours) 0 (s_0.1.set (Int.toNat s_0.2) (List.replicate (Int.toNat a0.hours) (0:Int)))with| .inl x_3_0=>.inl (.inl ()) | .inr s_3=>.inr (s_3,(IntKind.i64.wrap (s_0.2 - 1)))) | .inr s_1=>.inr default)else .inl (.inr s_0.1))
def dK (a0:District)(a1:List Order)(k_0:Nat)(s_0:List (List Int)×Int):Prop:=((decide (s_0.2≥0))=true→((a0.hours=a0.hours∧0≤a0.hours∧a0.hours*((8:Nat):Int)≤((dE:Nat):Int))∧(a0.hours≤((a7:Nat):Int)→((0≤s_0.2∧s_0.2< (s_0.1.length:Int))∧((jy a0 a1 s_0.2)∧(okI (bL a0 s_0) (gI a0 s_0) (a0.reaches.length+1) 0 ((cG a0 a1 s_0.2),(IntKind.i64.wrap (s_0.2+1)))∧(∀ z_,ap (bL a0 s_0) (a0.reaches.length+1) 0 ((cG a0 a1 s_0.2),(IntKind.i64.wrap (s_0.2+1)))≠ .inr z_)∧(∀ x_1_0,ap (bL a0 s_0) (a0.reaches.length+1) 0 ((cG a0 a1 s_0.2),(IntKind.i64.wrap (s_0.2+1)))=.inl x_1_0→((a0.hours<9223372036854775808)∧okI (cg a0 s_0 x_1_0) (dJ a0 s_0 x_1_0) (Int.toNat a0.hours) 0 (s_0.1.set (Int.toNat s_0.2) (List.replicate (Int.toNat a0.hours) (0:Int)))))))))))
def aV (a0:District)(a1:List Order):List (List Int)×Bool:=(match ap (bQ a0 a1) (a0.reaches.length+1) 0 ((List.replicate a0.reaches.length []),(IntKind.i64.wrap ((a0.reaches.length:Int) - 1)))with| .inl (.inl x_0_0) =>([],false) | .inl (.inr x_0_1) =>(x_0_1,true) | .inr s_0=>default)
def jz (a0:District)(a1:List Order):Prop:=(a0.reaches.length≤a7→(((a0.reaches.length:Int)=(a0.reaches.length:Int)∧0≤(a0.reaches.length:Int)∧(a0.reaches.length:Int)*((24:Nat):Int)≤((dE:Nat):Int))∧((a0.reaches.length:Int)≤((a7:Nat):Int)→(a0.reaches.length≤a7→(okI (bQ a0 a1) (dK a0 a1) (a0.reaches.length+1) 0 ((List.replicate a0.reaches.length []),(IntKind.i64.wrap ((a0.reaches.length:Int) - 1)))∧(∀ z_,ap (bQ a0 a1) (a0.reaches.length+1) 0 ((List.replicate a0.reaches.length []),(IntKind.i64.wrap ((a0.reaches.length:Int) - 1)))≠ .inr z_))))))
@[go_sem] def qG:List SV→Option Con:=(pD .district fun a0=>(pR .order fun a1=>(pE (.det (jz a0 a1) (.tup [.rs .ints ((aV a0 a1).1),.v (.bool ((aV a0 a1).2))])))))
theorem wI:FnOk Tryz.prog 103 qG:=by
 have hG:ConsOk Tryz.prog (mkG [(135,fun l=>qF (cn [.st .district,.sl .order,.o] l)),(136,sa)] []):=aC (cgc (wH.norm [.st .district,.sl .order,.o]) (cgc xK cg0)) cg0
 refine aI [.sl .ints,.o] mixed ax hG (fn:=Tryz.f103) (c:=aa Tryz.f103) (by kernel_rfl) (by kernel_rfl) (by kernel_rfl) (by kernel_rfl) (aN fun a0=>(cj fun a1=>(aB (fun hp=>?_))))
 dsimp only[aD]at hp
 unfold jz at hp
 refine⟨Nat.le_of_ble_eq_true rfl,(fun id st=>bif Nat.beq id 0 then some (LCV (ρ:=(Unit⊕(List (List Int)))) (σ:=(List (List Int)×Int)) 2 [] [0,1,1] (fun k_0 s_0=>⟨[(1,.rs .order a1),(2,.ptr 0 0),(6,.os 2),(7,.v (.int .i64 s_0.2))],[.cells (cellsOf .district a0),.dead,.grid .int s_0.1]⟩) (bQ a0 a1) (dK a0 a1) (a0.reaches.length+1) ((List.replicate a0.reaches.length []),(IntKind.i64.wrap ((a0.reaches.length:Int) - 1))) (fun x=>match x with|(.inl _) =>.ret|(.inr _) =>.normal) (fun x=>match x with|(.inl x_0_0) =>⟨[(4,.v (.slice none 0 0)),(5,.v (.bool false))],[.dead,.dead,.dead]⟩ |(.inr x_0_1) =>⟨[(6,.os 2)],[.dead,.dead,.grid .int x_0_1]⟩) st)else none),?_,?_⟩
 ·unfold aa Tryz.f103
  simp only[ay,true_and,and_true]
  ·refine ii mixed ax hG (by kernel_rfl) (fun _=>rfl) fun k_0 s_0 hq0=>⟨(fun id st=>bif Nat.beq id 2 then some (LCV (ρ:=(List Int)) (σ:=(List Int×Int)) 6 [] [0,1,2,3,4,5] (fun k_1 s_1=>⟨[(1,.rs .order a1),(2,.ptr 0 0),(6,.os 4),(7,.v (.int .i64 s_0.2)),(8,.os 5),(9,.v (.int .i64 s_1.2))],[.cells (cellsOf .district a0),.dead,.dead,.dead,.grid .int (s_0.1.set (Int.toNat s_0.2) (List.replicate (Int.toNat a0.hours) (0:Int))),.row .int s_1.1]⟩) (bL a0 s_0) (gI a0 s_0) (a0.reaches.length+1) ((cG a0 a1 s_0.2),(IntKind.i64.wrap (s_0.2+1))) (fun _=>.normal) (fun x_1_0=>⟨[(1,.rs .order a1),(2,.ptr 0 0),(6,.os 4),(7,.v (.int .i64 s_0.2)),(8,.os 5)],[.cells (cellsOf .district a0),.dead,.dead,.dead,.grid .int (s_0.1.set (Int.toNat s_0.2) (List.replicate (Int.toNat a0.hours) (0:Int))),.row .int x_1_0]⟩) st)else bif Nat.beq id 6 then some (LCR (ρ:=Unit) (σ:=(List (List Int))) 6 [] [0,1,2,3,4,5] (fun k_3 s_3=>⟨[(1,.rs .order a1),(2,.ptr 0 0),(6,.os 4),(7,.v (.int .i64 s_0.2)),(8,.os 5),(11,.v (.int .i64 (k_3:Int)))],[.cells (cellsOf .district a0),.dead,.dead,.dead,.grid .int s_3,.row .int (bf (ap (bL a0 s_0) (a0.reaches.length+1) 0 ((cG a0 a1 s_0.2),(IntKind.i64.wrap (s_0.2+1)))))]⟩) (cg a0 s_0 (bf (ap (bL a0 s_0) (a0.reaches.length+1) 0 ((cG a0 a1 s_0.2),(IntKind.i64.wrap (s_0.2+1)))))) (dJ a0 s_0 (bf (ap (bL a0 s_0) (a0.reaches.length+1) 0 ((cG a0 a1 s_0.2),(IntKind.i64.wrap (s_0.2+1)))))) (Int.toNat a0.hours) (s_0.1.set (Int.toNat s_0.2) (List.replicate (Int.toNat a0.hours) (0:Int))) (a0.hours<9223372036854775808) (fun _=>.ret) (fun x_3_0=>⟨[(4,.v (.slice none 0 0)),(5,.v (.bool false))],[.dead,.dead,.dead,.dead,.dead,.dead]⟩) st)else none),?_,?_⟩
   ·simp only[ay,true_and,and_true]
    refine⟨?_,?_⟩
    ·refine ii mixed ax hG (by kernel_rfl) (fun _=>rfl) fun k_1 s_1 hq1=>⟨(fun id st=>bif Nat.beq id 4 then some (LCV (ρ:=(List Int)) (σ:=(List Int×Int)) 6 [] [0,1,2,3,4,5] (fun k_2 s_2=>⟨[(1,.rs .order a1),(2,.ptr 0 0),(6,.os 4),(7,.v (.int .i64 s_0.2)),(8,.os 5),(9,.v (.int .i64 s_1.2)),(10,.v (.int .i64 s_2.2))],[.cells (cellsOf .district a0),.dead,.dead,.dead,.grid .int (s_0.1.set (Int.toNat s_0.2) (List.replicate (Int.toNat a0.hours) (0:Int))),.row .int s_2.1]⟩) (cw a0 s_0 s_1) (gH a0 s_0 s_1) (Int.toNat a0.hours+1) (s_1.1,0) (fun _=>.normal) (fun x_2_0=>⟨[(1,.rs .order a1),(2,.ptr 0 0),(6,.os 4),(7,.v (.int .i64 s_0.2)),(8,.os 5),(9,.v (.int .i64 s_1.2))],[.cells (cellsOf .district a0),.dead,.dead,.dead,.grid .int (s_0.1.set (Int.toNat s_0.2) (List.replicate (Int.toNat a0.hours) (0:Int))),.row .int x_2_0]⟩) st)else none),?_,?_⟩
     ·simp only[ay,true_and,and_true]
      ·refine ii mixed ax hG (by kernel_rfl) (fun _=>rfl) fun k_2 s_2 hq2=>⟨L0,ak _,?_⟩
       ·unfold gH at hq2
        exact Ez
     ·unfold gI at hq1
      exact Ez
    ·refine dB mixed ax hG (by kernel_rfl) (fun _=>rfl) a0.hours rfl id (fun hb3 k_3 s_3 hlt3 hq3 hw hc=>⟨L0,ak _,?_⟩) (fun hb3 s_3 hc=>?_)
     ·unfold dJ at hq3
      try simp only[hw,Int.toNat_natCast]at hq3
      simp only[go_sem,Nat.reduceBEq,Nat.reduceLeDiff,Nat.reduceLT,decide_true,Nat.reduceAdd,Nat.reduceSub,Nat.reduceMul,Int.reduceLE,Int.reduceLT,Int.reduceToNat,Int.reduceNeg,reduceCtorEq,hc,hw]
      all_goals (repeat' (first|with_reducible refine And.intro ?_ ?_|with_reducible intro _))
      all_goals first|exact rR|(rename_i h1 h2;rw[h1,cond_false,h2];exact rR) |(rename_i h1 h2;have hq:=hq3.2.2.2.2 h1 h2;omega)
     ·exact Ea
   ·unfold dK at hq0
    simp only[go_sem,Nat.reduceBEq,Nat.reduceLeDiff,Nat.reduceLT,decide_true,Nat.reduceAdd,Nat.reduceSub,Nat.reduceMul,Int.reduceLE,Int.reduceLT,Int.reduceToNat,Int.reduceNeg,reduceCtorEq]
    all_goals (repeat' (first|with_reducible refine And.intro ?_ ?_|with_reducible intro _))
    all_goals first|exact sb|(rename_i h1 _ _ h3 _ h4;simp only[h3,bf]at h4;simp only[h1,h3,h4,bf,cond_true];exact sb)
 ·unfold aa Tryz.f103
  try unfold aV
  simp only[go_sem,Nat.reduceBEq,Nat.reduceLeDiff,Nat.reduceLT,decide_true,Nat.reduceAdd,Nat.reduceSub,Nat.reduceMul,Int.reduceLE,Int.reduceLT,Int.reduceToNat,Int.reduceNeg,reduceCtorEq,Sum.forall]
  all_goals exact cl
@[go_sem] def fS (a1:List Order)(k_0:Nat)(s_0:Unit):Unit⊕Unit:=(bif(!(a1.getD k_0 (default:Order)).outlet)then .inl ()else .inr ())
@[go_sem] def fT (a0:District)(a1:List Order)(k_1:Nat)(k_2:Nat)(s_2:List Order):Empty⊕(List Order):=(bif(decide (((((aV a0 a1).1).getD k_1 (default:List Int)).getD k_2 (0:Int)) > 0))then .inr (nJ s_2 ({ hour:=(k_2:Int),index:=(k_1:Int),litres:=((((aV a0 a1).1).getD k_1 (default:List Int)).getD k_2 (0:Int)),outlet:=false}:Order))else .inr s_2)
def gU (a0:District)(a1:List Order)(k_1:Nat)(k_2:Nat)(s_2:List Order):Prop:=((0≤(k_2:Int)∧(k_2:Int) < ((((aV a0 a1).1).getD k_1 (default:List Int)).length:Int))∧((decide (((((aV a0 a1).1).getD k_1 (default:List Int)).getD k_2 (0:Int)) > 0))=true→((0≤(k_2:Int)∧(k_2:Int) < ((((aV a0 a1).1).getD k_1 (default:List Int)).length:Int))∧(oQ s_2 ({ hour:=(k_2:Int),index:=(k_1:Int),litres:=((((aV a0 a1).1).getD k_1 (default:List Int)).getD k_2 (0:Int)),outlet:=false}:Order)))))
@[go_sem] def fg (a0:District)(a1:List Order)(k_1:Nat)(s_1:List Order):Empty⊕(List Order):=(match ap (fT a0 a1 k_1) (Int.toNat a0.hours) 0 s_1 with| .inl x=>x.elim| .inr s_2=>.inr s_2)
def jA (a0:District)(a1:List Order)(k_1:Nat)(s_1:List Order):Prop:=(((aV a0 a1).1).length≤a7→((a0.hours<9223372036854775808)∧okI (fT a0 a1 k_1) (gU a0 a1 k_1) (Int.toNat a0.hours) 0 s_1))
def cy (a0:District)(a1:List Order):List Order×Bool×Int:=(bif((ff a0 a1) !=0)then([],false,(ff a0 a1))else(bif(lz a0)then([],false,2)else(match ap (fS a1) a1.length 0 ()with| .inl x_0_0=>([],false,220) | .inr s_0=>(bif(!(aV a0 a1).2)then([],false,0)else(match ap (fg a0 a1) (((aV a0 a1).1).length) 0 (([])++a1)with| .inl x=>x.elim| .inr s_1=>(bif(decide ((s_1.length:Int) > 4096))then([],false,2)else(s_1,true,0)))))))
def nz (a0:District)(a1:List Order):Prop:=((lZ a0 a1)∧(((ff a0 a1) !=0)=false→((lz a0)=false→(∀ s_0,ap (fS a1) a1.length 0 ()=.inr s_0→((jz a0 a1)∧((!(aV a0 a1).2)=false→(((([])++a1).length*32≤dE)∧((([])++a1).length≤a7→okI (fg a0 a1) (jA a0 a1) (((aV a0 a1).1).length) 0 (([])++a1)))))))))
@[go_sem] def vH:List SV→Option Con:=(pD .district fun a0=>(pR .order fun a1=>(pE (.det (nz a0 a1) (.tup [.nw .order ((cy a0 a1).1),.v (.bool ((cy a0 a1).2.1)),.v (.int .i64 ((cy a0 a1).2.2))])))))
theorem AH:FnOk Tryz.prog 58 vH:=by
 have hG:ConsOk Tryz.prog (mkG [(101,fun l=>tE (cn [.st .district,.sl .order] l)),(102,fun l=>vG (cn [.st .district] l)),(103,fun l=>qG (cn [.st .district,.sl .order] l)),(104,fun l=>xb (cn [.sl .order,.st .order] l))] []):=aC (cgc (zS.norm [.st .district,.sl .order]) (cgc (AG.norm [.st .district]) (cgc (wI.norm [.st .district,.sl .order]) (cgc (CL.norm [.sl .order,.st .order]) cg0)))) cg0
 refine qf [(.tmp 4,.order)] mixed ax hG (fn:=Tryz.f58) (c:=aa Tryz.f58) (by kernel_rfl) (by kernel_rfl) (by kernel_rfl) (by kernel_rfl) (aN fun a0=>(cj fun a1=>(aB (fun hp=>?_))))
 dsimp only[aD]at hp
 unfold nz at hp
 refine⟨Nat.le_of_ble_eq_true rfl,(fun id st=>bif Nat.beq id 0 then some (LCR (ρ:=Unit) (σ:=Unit) 1 [] [0] (fun k_0 s_0=>⟨[(1,.rs .order a1),(2,.ptr 0 0),(8,.v (.int .i64 (k_0:Int)))],[.cells (cellsOf .district a0)]⟩) (fS a1) pT a1.length () (True) (fun _=>.ret) (fun x_0_0=>⟨[(4,.v (.slice none 0 0)),(5,.v (.bool false)),(6,.v (.int .i64 220))],[.dead]⟩) st)else bif Nat.beq id 2 then some (LCR (ρ:=Empty) (σ:=(List Order)) 2 [] [0,1,1] (fun k_1 s_1=>⟨[(2,.ptr 0 0),(9,.rs .ints ((aV a0 a1).1)),(11,.os 2),(12,.v (.int .i64 (k_1:Int)))],[.cells (cellsOf .district a0),.dead,.row .order s_1]⟩) (fg a0 a1) (jA a0 a1) (((aV a0 a1).1).length) (([])++a1) (True) ((·.elim)) ((·.elim)) st)else none),?_,?_⟩
 ·unfold aa Tryz.f58
  simp only[ay,true_and,and_true]
  refine⟨?_,?_⟩
  ·refine dL (a1.length≤a7) mixed ax hG (by kernel_rfl) (fun _=>rfl) (a1.length:Int) rfl g7 (fun hb0 k_0 s_0 hlt0 _ hw hc=>⟨L0,ak _,?_⟩) (fun hb0 s_0 hc=>?_) fun hb0 k_0 s_0=>?_
   ·exact fv
   ·exact fw
   ·simp only[go_sem,Nat.reduceBEq,Nat.reduceLeDiff,Nat.reduceLT,decide_true,Nat.reduceAdd,Nat.reduceSub,Nat.reduceMul,Int.reduceLE,Int.reduceLT,Int.reduceToNat,Int.reduceNeg,reduceCtorEq,hb0]
  ·refine dL (((aV a0 a1).1).length≤a7) mixed ax hG (by kernel_rfl) (fun _=>rfl) (((aV a0 a1).1).length:Int) rfl g7 (fun hb1 k_1 s_1 hlt1 hq1 hw hc=>⟨(fun id st=>bif Nat.beq id 4 then some (LCR (ρ:=Empty) (σ:=(List Order)) 3 [] [0,1,2,2] (fun k_2 s_2=>⟨[(2,.ptr 0 0),(9,.rs .ints ((aV a0 a1).1)),(11,.os 3),(12,.v (.int .i64 (k_1:Int))),(13,.v (.int .i64 (k_2:Int)))],[.cells (cellsOf .district a0),.dead,.dead,.row .order s_2]⟩) (fT a0 a1 k_1) (gU a0 a1 k_1) (Int.toNat a0.hours) s_1 (a0.hours<9223372036854775808) ((·.elim)) ((·.elim)) st)else none),?_,?_⟩) (fun hb1 s_1 hc=>?_) fun hb1 k_1 s_1=>?_
   ·simp only[ay,true_and,and_true]
    ·refine dB mixed ax hG (by kernel_rfl) (fun _=>rfl) a0.hours rfl id (fun hb2 k_2 s_2 hlt2 hq2 hw hc=>⟨L0,ak _,?_⟩) (fun hb2 s_2 hc=>?_)
     ·unfold gU at hq2
      try simp only[hw,Int.toNat_natCast]at hq2
      exact K7
     ·exact K8
   ·unfold jA at hq1
    try simp only[hw,Int.toNat_natCast]at hq1
    exact EA
   ·exact EB
   ·simp only[go_sem,Nat.reduceBEq,Nat.reduceLeDiff,Nat.reduceLT,decide_true,Nat.reduceAdd,Nat.reduceSub,Nat.reduceMul,Int.reduceLE,Int.reduceLT,Int.reduceToNat,Int.reduceNeg,reduceCtorEq,hb1]
 ·unfold aa Tryz.f58
  try unfold cy
  simp only[go_sem,Nat.reduceBEq,Nat.reduceLeDiff,Nat.reduceLT,decide_true,Nat.reduceAdd,Nat.reduceSub,Nat.reduceMul,Int.reduceLE,Int.reduceLT,Int.reduceToNat,Int.reduceNeg,reduceCtorEq]
  all_goals exact cl
end Go.Sx
end
section
namespace Go.Proofs
open Go.Shelf
def Tryz.sortLc_ren:Go.Shelf.Ren:=⟨fun|6=>67|15=>112|14=>111|28=>146|29=>147|20=>138|21=>139|22=>140|23=>141|24=>142|25=>143|26=>144|27=>145|46=>166|47=>167|48=>168|49=>169|50=>170|57=>182|n=>n,fun|22=>32|24=>49|25=>80|3=>3|39=>166|0=>0|53=>202|55=>204|4=>4|46=>196|45=>195|50=>147|5=>5|9=>9|66=>215|70=>219|76=>227|77=>228|n=>n,fun|n=>n⟩
theorem Tryz.sortLc:Go.Proofs.SlLaysF0.n6 Tryz.prog Tryz.sortLc_ren:= {
 mixed:=by kernel_rfl
 f6:=⟨Tryz.f67.name,by decide,Tryz.func67.trans (congrArg some (by kernel_rfl))⟩
 f14:=⟨Tryz.f111.name,by decide,Tryz.func111.trans (congrArg some (by kernel_rfl))⟩
 f15:=Tryz.func112.trans (congrArg some (by kernel_rfl))
 f20:=⟨Tryz.f138.name,by decide,Tryz.func138.trans (congrArg some (by kernel_rfl))⟩
 f21:=⟨Tryz.f139.name,by decide,Tryz.func139.trans (congrArg some (by kernel_rfl))⟩
 f22:=⟨Tryz.f140.name,by decide,Tryz.func140.trans (congrArg some (by kernel_rfl))⟩
 f23:=⟨Tryz.f141.name,by decide,Tryz.func141.trans (congrArg some (by kernel_rfl))⟩
 f24:=⟨Tryz.f142.name,by decide,Tryz.func142.trans (congrArg some (by kernel_rfl))⟩
 f25:=⟨Tryz.f143.name,by decide,Tryz.func143.trans (congrArg some (by kernel_rfl))⟩
 f26:=⟨Tryz.f144.name,by decide,Tryz.func144.trans (congrArg some (by kernel_rfl))⟩
 f27:=⟨Tryz.f145.name,by decide,Tryz.func145.trans (congrArg some (by kernel_rfl))⟩
 f28:=Tryz.func146.trans (congrArg some (by kernel_rfl))
 f29:=Tryz.func147.trans (congrArg some (by kernel_rfl))
 f46:=⟨Tryz.f166.name,by decide,Tryz.func166.trans (congrArg some (by kernel_rfl))⟩
 f47:=Tryz.func167.trans (congrArg some (by kernel_rfl))
 f48:=Tryz.func168.trans (congrArg some (by kernel_rfl))
 f49:=⟨Tryz.f169.name,by decide,Tryz.func169.trans (congrArg some (by kernel_rfl))⟩
 f50:=⟨Tryz.f170.name,by decide,Tryz.func170.trans (congrArg some (by kernel_rfl))⟩
 f57:=⟨Tryz.f182.name,by decide,Tryz.func182.trans (congrArg some (by kernel_rfl))⟩
 t0:=Tryz.underlying0
 a0:=Tryz.isAgg0
 z0:=Tryz.sizeOf0
 v0:=Tryz.zeroValue0
 t3:=Tryz.underlying3
 a3:=Tryz.isAgg3
 z3:=Tryz.sizeOf3
 v3:=Tryz.zeroValue3
 t4:=Tryz.underlying4
 a4:=Tryz.isAgg4
 z4:=Tryz.sizeOf4
 v4:=Tryz.zeroValue4
 t5:=Tryz.underlying5
 a5:=Tryz.isAgg5
 z5:=Tryz.sizeOf5
 v5:=Tryz.zeroValue5
 t9:=Tryz.underlying9
 a9:=Tryz.isAgg9
 z9:=Tryz.sizeOf9
 v9:=Tryz.zeroValue9
 t22:=Tryz.underlying32
 a22:=Tryz.isAgg32
 z22:=Tryz.sizeOf32
 v22:=Tryz.zeroValue32
 t25:=Tryz.underlying80
 a25:=Tryz.isAgg80
 z25:=Tryz.sizeOf80
 v25:=Tryz.zeroValue80
 t39:=Tryz.underlying166
 a39:=Tryz.isAgg166
 z39:=Tryz.sizeOf166
 v39:=Tryz.zeroValue166
 t45:=Tryz.underlying195
 a45:=Tryz.isAgg195
 z45:=Tryz.sizeOf195
 v45:=Tryz.zeroValue195
 t46:=Tryz.underlying196
 a46:=Tryz.isAgg196
 z46:=Tryz.sizeOf196
 v46:=Tryz.zeroValue196
 t50:=Tryz.underlying147
 a50:=Tryz.isAgg147
 z50:=Tryz.sizeOf147
 v50:=Tryz.zeroValue147
 t53:=Tryz.underlying202
 a53:=Tryz.isAgg202
 z53:=Tryz.sizeOf202
 v53:=Tryz.zeroValue202
 t55:=Tryz.underlying204
 a55:=Tryz.isAgg204
 z55:=Tryz.sizeOf204
 v55:=Tryz.zeroValue204
 t66:=Tryz.underlying215
 a66:=Tryz.isAgg215
 z66:=Tryz.sizeOf215
 v66:=Tryz.zeroValue215
 t70:=Tryz.underlying219
 a70:=Tryz.isAgg219
 z70:=Tryz.sizeOf219
 v70:=Tryz.zeroValue219
 t76:=Tryz.underlying227
 a76:=Tryz.isAgg227
 z76:=Tryz.sizeOf227
 v76:=Tryz.zeroValue227
 t77:=Tryz.underlying228
 a77:=Tryz.isAgg228
 z77:=Tryz.sizeOf228
 v77:=Tryz.zeroValue228}
end Go.Proofs
end
