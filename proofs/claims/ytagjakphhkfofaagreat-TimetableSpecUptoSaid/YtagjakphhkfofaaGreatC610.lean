/- Part of the proof that the law TimetableSpec returns true and leaves its arguments as they were, for all arguments of bulk at most 1048576 (the Upto form). -/
import Derived.Test.YtagjakphhkfofaaGreatC609
import Derived.Test.YtagjakphhkfofaaGreatC607
import Derived.Test.YtagjakphhkfofaaGreatC608
import Derived.Test.YtagjakphhkfofaaGreatC601
import Derived.Test.YtagjakphhkfofaaGreatC606
import Derived.Shelf.SlSortCmp.NoneTotal
import Derived.Ground.SlsfProg
import Derived.Test.YtagjakphhkfofaaGreatProg
set_option linter.all false
set_option maxHeartbeats 4000000
section
namespace Go.Sx
open Go.Proofs
set_option maxRecDepth 100000
set_option linter.unusedSimpArgs false
theorem rq {p:Prop}(h:p:=by(first|done|(repeat' (first|with_reducible refine And.intro ?_ ?_|((with_reducible show _≠_);first|assumption|omega|(simp_all [aZ,bg];done) |grind) |with_reducible intro _)) <;>(first|done|exact Empty.elim ‹Empty› |assumption|rfl|omega|decide|exact fk [0,1,2,3] |exact czl|(simp only[*,cond_true,cond_false,Bool.not_true,Bool.not_false,go_sem,Nat.reduceBEq,Nat.reduceLeDiff,Nat.reduceLT,decide_true,Nat.reduceAdd,Nat.reduceSub,Nat.reduceMul,Int.reduceLE,Int.reduceLT,Int.reduceToNat,Int.reduceNeg,reduceCtorEq];(repeat' (first|with_reducible refine And.intro ?_ ?_|((with_reducible show _≠_);first|assumption|omega|(simp_all [aZ,bg];done) |grind) |with_reducible intro _)) <;>(first|done|assumption|rfl|omega|decide|exact fk [0,1,2,3] |(simp_all [aZ,bg];done))) |(simp_all [okI,aZ,bg];done) |(simp_all [aZ,bg];(first|done|exact fk2 [0,1,2,3])) |exact fk2 [0,1,2,3]))):p:=h
@[go_sem] def a7 (out:List Order)(d:District)(z_0:Fault)(s_0:Int×Int×Int×Int×Int):Empty⊕(Int×Int×Int×Int×Int):=(bif(((s_0.1==0)&&((s_0.2.1==0)&&((s_0.2.2.1==0)&&((s_0.2.2.2.1==0)&&(s_0.2.2.2.2==0))))) ||(decide ((bD ([(aO z_0.hour s_0.2.1),(aO s_0.2.2.1 z_0.index)])) <0)))then .inr (z_0.kind,z_0.hour,z_0.index,z_0.litres,z_0.limit)else .inr (s_0.1,s_0.2.1,s_0.2.2.1,s_0.2.2.2.1,s_0.2.2.2.2))
def rt (out:List Order)(d:District)(z_0:Fault)(s_0:Int×Int×Int×Int×Int):Prop:=True
def dC (out:List Order)(d:District):Fault:=(match cF (a7 out d) (aR out d) (0,0,0,0,0)with| .inl x=>x.elim| .inr s_0=>({ kind:=s_0.1,hour:=s_0.2.1,index:=s_0.2.2.1,litres:=s_0.2.2.2.1,limit:=s_0.2.2.2.2}:Fault))
def j8 (out:List Order)(d:District):Prop:=(fh out d ((aR out d).map d4))
@[go_sem] noncomputable def j9:List SV→Option Con:=(pFn 98 (pXR .order fun out=>(pX .district fun d=>(pE ((pE (.det (j8 out d) (.agg (cellsOf .fault (dC out d))))))))))
theorem nN:FnOk Tryz.prog 55 j9:=by
 have hG:ConsOk Tryz.prog (mkG [(69,fun l=>fA (ci [.sl .int] l)),(70,c6)] []):=aC (cgc (gi.norm [.sl .int]) (cgc dD cg0)) cg0
 refine aI [.st .fault] mixed ax hG (fn:=Tryz.f55) (c:=ae Tryz.f55) (by kernel_rfl) (by kernel_rfl) (by kernel_rfl) (by kernel_rfl) (jS (ui fun out=>(tv fun d=>(aB ((aB (fun hp=>?_)))))))
 dsimp only[aD]at hp
 unfold j8 at hp
 refine⟨Nat.le_of_ble_eq_true rfl,(fun id st=>bif Nat.beq id 0 then some (LC (ρ:=Empty) (σ:=Int×Int×Int×Int×Int) (lk 2 st.t=.ptr 0 0∧lk 4 st.t=.fn 98 [] [.ep [.rs .order out] 0,.ep (cellsOf .district d) 0]∧st.h=[.cells [.v (.int .i64 0),.v (.int .i64 0),.v (.int .i64 0),.v (.int .i64 0),.v (.int .i64 0)]]∧fh out d ((aR out d).map d4)) (cF (a7 out d) (aR out d) (0,0,0,0,0)) (fun x=>x.elim) (fun x=>x.elim) (fun s_0=>⟨[(2,.ptr 0 0)],[.cells [.v (.int .i64 s_0.1),.v (.int .i64 s_0.2.1),.v (.int .i64 s_0.2.2.1),.v (.int .i64 s_0.2.2.2.1),.v (.int .i64 s_0.2.2.2.2)]]⟩))else none),?_,?_⟩
 ·unfold ae Tryz.f55
  simp only[az,true_and,and_true]
  ·refine oV mixed ax hG (by decide) (by decide) (by kernel_rfl) (by kernel_rfl) fun st lc hC hp=>?_
   simp only[go_sem,Nat.reduceBEq,Option.some.injEq]at hC
   subst hC
   obtain⟨t,h⟩:=st
   dsimp only[LC]at hp
   obtain⟨e0_0,e0_1,rfl,hb0⟩:=hp
   refine⟨98,[.ep [.rs .order out] 0,.ep (cellsOf .district d) 0],Fault,_,_,(aR out d),d4,(a7 out d),(rt out d),_,(0,0,0,0,0),_,_,_,[(2,.ptr 0 0)],(fun s_0=>[.cells [.v (.int .i64 s_0.1),.v (.int .i64 s_0.2.1),.v (.int .i64 s_0.2.2.1),.v (.int .i64 s_0.2.2.2.1),.v (.int .i64 s_0.2.2.2.2)]]),(fun x=>x.elim),[0],?_,rfl,xk _ _ fun _ _ _=>trivial,Nat.le_of_ble_eq_true rfl,?_,sh out d _ hb0,fun z_0 s_0 hq0=>⟨rfl,L0,fun l=>?_,fun l=>?_,?_⟩,fun s_0=>?_,fun y=>?_⟩
   ·simp only[go_sem,e0_0,e0_1]
   ·simp only[go_sem,Nat.reduceBEq,Nat.reduceLeDiff,Nat.reduceLT,decide_true,Nat.reduceAdd,Nat.reduceSub,Nat.reduceMul,Int.reduceLE,Int.reduceLT,Int.reduceToNat,Int.reduceNeg,reduceCtorEq,pW,jP,List.flatMap_cons,List.flatMap_nil,List.nil_append,List.append_nil,List.map_nil,e0_0,e0_1]
    all_goals (first|done|decide|(repeat' (first|refine And.intro ?_ ?_|rfl|decide)))
   ·simp only[az,and_self,true_and,and_true]
   ·simp only[az,and_self,true_and,and_true]
   ·skip
    simp only[go_sem,Nat.reduceBEq,Nat.reduceLeDiff,Nat.reduceLT,decide_true,Nat.reduceAdd,Nat.reduceSub,Nat.reduceMul,Int.reduceLE,Int.reduceLT,Int.reduceToNat,Int.reduceNeg,reduceCtorEq,a7,psT,d4,List.cons_append,List.nil_append]
    all_goals exact jT
   ·simp only[go_sem,Nat.reduceBEq,Nat.reduceLeDiff,Nat.reduceLT,decide_true,Nat.reduceAdd,Nat.reduceSub,Nat.reduceMul,Int.reduceLE,Int.reduceLT,Int.reduceToNat,Int.reduceNeg,reduceCtorEq]
    all_goals exact jT
   ·simp only[go_sem,Nat.reduceBEq,Nat.reduceLeDiff,Nat.reduceLT,decide_true,Nat.reduceAdd,Nat.reduceSub,Nat.reduceMul,Int.reduceLE,Int.reduceLT,Int.reduceToNat,Int.reduceNeg,reduceCtorEq]
    all_goals exact jT
 ·unfold ae Tryz.f55
  try unfold dC
  simp only[go_sem,Nat.reduceBEq,Nat.reduceLeDiff,Nat.reduceLT,decide_true,Nat.reduceAdd,Nat.reduceSub,Nat.reduceMul,Int.reduceLE,Int.reduceLT,Int.reduceToNat,Int.reduceNeg,reduceCtorEq]
  all_goals exact cl
@[go_sem] def dc (d:District)(c:List Claim)(z_0:Fault)(s_0:Unit):(Int×Int×Int×Int×Int)⊕Unit:=.inl (z_0.kind,z_0.hour,z_0.index,z_0.litres,z_0.limit)
def mb (d:District)(c:List Claim)(z_0:Fault)(s_0:Unit):Prop:=True
def av (d:District)(c:List Claim):List Order×Fault×Int:=(bif((ag d c).2 !=0)then([],({ kind:=0,hour:=0,index:=0,litres:=0,limit:=0}:Fault),(ag d c).2)else(bif((am d ((ag d c).1)).2.2 !=0)then([],({ kind:=0,hour:=0,index:=0,litres:=0,limit:=0}:Fault),(am d ((ag d c).1)).2.2)else(bif(!(am d ((ag d c).1)).2.1)then([],(dC ((ag d c).1) d),0)else(match cF (dc d c) (bK ((am d ((ag d c).1)).1) d) ()with| .inl x_0_0=>([],({ kind:=x_0_0.1,hour:=x_0_0.2.1,index:=x_0_0.2.2.1,litres:=x_0_0.2.2.2.1,limit:=x_0_0.2.2.2.2}:Fault),0) | .inr s_0=>((am d ((ag d c).1)).1,({ kind:=0,hour:=0,index:=0,litres:=0,limit:=0}:Fault),0)))))
def dS (d:District)(c:List Claim):Prop:=((dR d c)∧(((ag d c).2 !=0)=false→((j5 d ((ag d c).1))∧(((am d ((ag d c).1)).2.2 !=0)=false→(((!(am d ((ag d c).1)).2.1)=true→(j8 ((ag d c).1) d))∧((!(am d ((ag d c).1)).2.1)=false→(dI ((am d ((ag d c).1)).1) d ((bK ((am d ((ag d c).1)).1) d).map d4))))))))
@[go_sem] def j_:List SV→Option Con:=(pD .district fun d=>(pR .claim fun c=>(pE (.det (dS d c) (.tup [.rs .order ((av d c).1),.agg (cellsOf .fault ((av d c).2.1)),.v (.int .i64 ((av d c).2.2))])))))
theorem nO:FnOk Tryz.prog 31 j_:=by
 have hG:ConsOk Tryz.prog (mkG [(33,fun l=>j6 (ci [.st .district,.sl .claim] l)),(54,fun l=>nJ (ci [.st .district,.sl .order] l)),(55,j9),(56,fun l=>kT (ci [.st .district,.sl .order] l)),(57,fun l=>ju (ci [.st .district,.sl .order] l))] []):=aC (cgc (nM.norm [.st .district,.sl .claim]) (cgc (qa.norm [.st .district,.sl .order]) (cgc nN (cgc (oq.norm [.st .district,.sl .order]) (cgc (mG.norm [.st .district,.sl .order]) cg0))))) cg0
 refine aI [.sl .order,.st .fault,.o] mixed ax hG (fn:=Tryz.f31) (c:=ae Tryz.f31) (by kernel_rfl) (by kernel_rfl) (by kernel_rfl) (by kernel_rfl) (aN fun d=>(cg fun c=>(aB (fun hp=>?_))))
 dsimp only[aD]at hp
 unfold dS at hp
 refine⟨Nat.le_of_ble_eq_true rfl,(fun id st=>bif Nat.beq id 0 then some (LC (ρ:=Int×Int×Int×Int×Int) (σ:=Unit) (lk 4 st.t=.ptr 1 0∧lk 5 st.t=.ptr 2 0∧lk 6 st.t=.ptr 3 0∧lk 39 st.t=.fn 100 [] [.ep [.rs .order ((am d ((ag d c).1)).1)] 0,.ep (cellsOf .district d) 0]∧st.h=[.cells (cellsOf .district d),.cells [.rs .order ((am d ((ag d c).1)).1)],.cells [.v (.int .i64 0),.v (.int .i64 0),.v (.int .i64 0),.v (.int .i64 0),.v (.int .i64 0)],.cells [.v (.int .i64 ((am d ((ag d c).1)).2.2))]]∧dI ((am d ((ag d c).1)).1) d ((bK ((am d ((ag d c).1)).1) d).map d4)) (cF (dc d c) (bK ((am d ((ag d c).1)).1) d) ()) (fun _=>.ret) (fun x_0_0=>⟨[(4,.ptr 1 0),(5,.ptr 2 0),(6,.ptr 3 0)],[.dead,.cells [.v (.slice none 0 0)],.cells [.v (.int .i64 x_0_0.1),.v (.int .i64 x_0_0.2.1),.v (.int .i64 x_0_0.2.2.1),.v (.int .i64 x_0_0.2.2.2.1),.v (.int .i64 x_0_0.2.2.2.2)],.cells [.v (.int .i64 0)]]⟩) (fun s_0=>⟨[(4,.ptr 1 0),(5,.ptr 2 0),(6,.ptr 3 0)],[.dead,.cells [.rs .order ((am d ((ag d c).1)).1)],.cells [.v (.int .i64 0),.v (.int .i64 0),.v (.int .i64 0),.v (.int .i64 0),.v (.int .i64 0)],.cells [.v (.int .i64 ((am d ((ag d c).1)).2.2))]]⟩))else none),?_,?_⟩
 ·unfold ae Tryz.f31
  simp only[az,true_and,and_true]
  ·refine oV mixed ax hG (by decide) (by decide) (by kernel_rfl) (by kernel_rfl) fun st lc hC hp=>?_
   simp only[go_sem,Nat.reduceBEq,Option.some.injEq]at hC
   subst hC
   obtain⟨t,h⟩:=st
   dsimp only[LC]at hp
   obtain⟨e0_0,e0_1,e0_2,e0_3,rfl,hb0⟩:=hp
   refine⟨100,[.ep [.rs .order ((am d ((ag d c).1)).1)] 0,.ep (cellsOf .district d) 0],Fault,_,_,(bK ((am d ((ag d c).1)).1) d),d4,(dc d c),(mb d c),_,(),_,_,_,[(4,.ptr 1 0),(5,.ptr 2 0),(6,.ptr 3 0)],(fun s_0=>[.dead,.cells [.rs .order ((am d ((ag d c).1)).1)],.cells [.v (.int .i64 0),.v (.int .i64 0),.v (.int .i64 0),.v (.int .i64 0),.v (.int .i64 0)],.cells [.v (.int .i64 ((am d ((ag d c).1)).2.2))]]),(fun x_0_0=>[.dead,.cells [.v (.slice none 0 0)],.cells [.v (.int .i64 x_0_0.1),.v (.int .i64 x_0_0.2.1),.v (.int .i64 x_0_0.2.2.1),.v (.int .i64 x_0_0.2.2.2.1),.v (.int .i64 x_0_0.2.2.2.2)],.cells [.v (.int .i64 0)]]),[0,1,2,3],?_,rfl,xk _ _ fun _ _ _=>trivial,Nat.le_of_ble_eq_true rfl,?_,kF ((am d ((ag d c).1)).1) d _ hb0,fun z_0 s_0 hq0=>⟨rfl,L0,fun l=>?_,fun l=>?_,?_⟩,fun s_0=>?_,fun y=>?_⟩
   ·simp only[go_sem,e0_0,e0_1,e0_2,e0_3]
   ·simp only[go_sem,Nat.reduceBEq,Nat.reduceLeDiff,Nat.reduceLT,decide_true,Nat.reduceAdd,Nat.reduceSub,Nat.reduceMul,Int.reduceLE,Int.reduceLT,Int.reduceToNat,Int.reduceNeg,reduceCtorEq,pW,jP,List.flatMap_cons,List.flatMap_nil,List.nil_append,List.append_nil,List.map_nil,e0_0,e0_1,e0_2,e0_3]
    all_goals (first|done|decide|(repeat' (first|refine And.intro ?_ ?_|rfl|decide)))
   ·simp only[az,and_self,true_and,and_true]
   ·simp only[az,and_self,true_and,and_true]
   ·skip
    simp only[go_sem,Nat.reduceBEq,Nat.reduceLeDiff,Nat.reduceLT,decide_true,Nat.reduceAdd,Nat.reduceSub,Nat.reduceMul,Int.reduceLE,Int.reduceLT,Int.reduceToNat,Int.reduceNeg,reduceCtorEq,dc,psT,d4,List.cons_append,List.nil_append]
    all_goals exact rq
   ·simp only[go_sem,Nat.reduceBEq,Nat.reduceLeDiff,Nat.reduceLT,decide_true,Nat.reduceAdd,Nat.reduceSub,Nat.reduceMul,Int.reduceLE,Int.reduceLT,Int.reduceToNat,Int.reduceNeg,reduceCtorEq]
    all_goals exact rq
   ·simp only[go_sem,Nat.reduceBEq,Nat.reduceLeDiff,Nat.reduceLT,decide_true,Nat.reduceAdd,Nat.reduceSub,Nat.reduceMul,Int.reduceLE,Int.reduceLT,Int.reduceToNat,Int.reduceNeg,reduceCtorEq]
    all_goals exact rq
 ·unfold ae Tryz.f31
  try unfold av
  simp only[go_sem,Nat.reduceBEq,Nat.reduceLeDiff,Nat.reduceLT,decide_true,Nat.reduceAdd,Nat.reduceSub,Nat.reduceMul,Int.reduceLE,Int.reduceLT,Int.reduceToNat,Int.reduceNeg,reduceCtorEq]
  all_goals exact cl
def aM (d:District)(c:List Claim):List Order×Bool×Int:=((av d c).1,(((av d c).2.2==0)&&((((av d c).2.1).kind==0)&&((((av d c).2.1).hour==0)&&((((av d c).2.1).index==0)&&((((av d c).2.1).litres==0)&&(((av d c).2.1).limit==0)))))),(av d c).2.2)
def dl (d:District)(c:List Claim):Prop:=(dS d c)
@[go_sem] def kU:List SV→Option Con:=(pD .district fun d=>(pR .claim fun c=>(pE (.det (dl d c) (.tup [.rs .order ((aM d c).1),.v (.bool ((aM d c).2.1)),.v (.int .i64 ((aM d c).2.2))])))))
theorem ot:FnOk Tryz.prog 12 kU:=by
 have hG:ConsOk Tryz.prog (mkG [(31,fun l=>j_ (ci [.st .district,.sl .claim] l))] []):=aC (cgc (nO.norm [.st .district,.sl .claim]) cg0) cg0
 refine aI [.sl .order,.o,.o] mixed ax hG (fn:=Tryz.f12) (c:=ae Tryz.f12) (by kernel_rfl) (by kernel_rfl) (by kernel_rfl) (by kernel_rfl) (aN fun d=>(cg fun c=>(aB (fun hp=>?_))))
 dsimp only[aD]at hp
 unfold dl at hp
 refine⟨Nat.le_of_ble_eq_true rfl,L0,aj _,?_⟩
 ·unfold ae Tryz.f12
  try unfold aM
  simp only[go_sem,Nat.reduceBEq,Nat.reduceLeDiff,Nat.reduceLT,decide_true,Nat.reduceAdd,Nat.reduceSub,Nat.reduceMul,Int.reduceLE,Int.reduceLT,Int.reduceToNat,Int.reduceNeg,reduceCtorEq]
  all_goals exact cl
def bE (d:District)(c:List Claim):Fault×Bool×Int:=(((av d c).2.1),(!((((av d c).2.1).kind==0)&&((((av d c).2.1).hour==0)&&((((av d c).2.1).index==0)&&((((av d c).2.1).litres==0)&&(((av d c).2.1).limit==0)))))),(av d c).2.2)
def eK (d:District)(c:List Claim):Prop:=(dS d c)
@[go_sem] def ka:List SV→Option Con:=(pD .district fun d=>(pR .claim fun c=>(pE (.det (eK d c) (.tup [.agg (cellsOf .fault ((bE d c).1)),.v (.bool ((bE d c).2.1)),.v (.int .i64 ((bE d c).2.2))])))))
theorem nP:FnOk Tryz.prog 14 ka:=by
 have hG:ConsOk Tryz.prog (mkG [(31,fun l=>j_ (ci [.st .district,.sl .claim] l))] []):=aC (cgc (nO.norm [.st .district,.sl .claim]) cg0) cg0
 refine aI [.st .fault,.o,.o] mixed ax hG (fn:=Tryz.f14) (c:=ae Tryz.f14) (by kernel_rfl) (by kernel_rfl) (by kernel_rfl) (by kernel_rfl) (aN fun d=>(cg fun c=>(aB (fun hp=>?_))))
 dsimp only[aD]at hp
 unfold eK at hp
 refine⟨Nat.le_of_ble_eq_true rfl,L0,aj _,?_⟩
 ·unfold ae Tryz.f14
  try unfold bE
  simp only[go_sem,Nat.reduceBEq,Nat.reduceLeDiff,Nat.reduceLT,decide_true,Nat.reduceAdd,Nat.reduceSub,Nat.reduceMul,Int.reduceLE,Int.reduceLT,Int.reduceToNat,Int.reduceNeg,reduceCtorEq]
  all_goals exact cl
end Go.Sx
end
section
namespace Go.Sx
open Go.Proofs
abbrev UM:=List (TimetableSlot×Bool)
abbrev WM:=List (TimetableSlot×Int)
def sl (a b:Int):TimetableSlot:= { index:=a,hour:=b}
def ltF (k:Nat)(r n:Int):Fault:= { kind:=7,hour:=(k:Int),index:=r,litres:=n,limit:=0}
section
variable {d:District}{s1:List Fault×WM×UM×Int}{k:Nat}{u:UM}{F:List Fault}{w:WM}
theorem HY (hu:aK .timetableSlot .bool u (sl s1.2.2.2 k)=true):∃ u',aA d s1 k (u,F,w)=.inr (u',F,w):=by
 unfold aA
 unfold sl at hu
 simp only[hu,cond_true]
 exact⟨_,rfl⟩
theorem vS (hu:aK .timetableSlot .bool u (sl s1.2.2.2 k)=false)(hn:aK .timetableSlot .int w (sl s1.2.2.2 k)=0):aA d s1 k (u,F,w)=.inr (u,F,w):=by
 unfold aA
 unfold sl at hu hn
 simp only[hu,hn,cond_false,BEq.rfl,cond_true]
theorem DJ (hu:aK .timetableSlot .bool u (sl s1.2.2.2 k)=false)(hn:aK .timetableSlot .int w (sl s1.2.2.2 k)≠0)
  (hb:(ak (rch d s1.2.2.2) (aK .timetableSlot .int w (sl s1.2.2.2 k))).2=false∨(k:Int) < (rch d s1.2.2.2).delay):
  ∃ u',aA d s1 k (u,F,w)=.inr (u',F++[ltF k s1.2.2.2 (aK .timetableSlot .int w (sl s1.2.2.2 k))],w):=by
 unfold aA ltF
 unfold sl at hu hn hb ⊢
 simp only[hu,cond_false]
 generalize hq:aK .timetableSlot .int w ({ index:=s1.2.2.2,hour:=(k:Int)}:TimetableSlot)=n at hn hb ⊢
 have h0:(n==0)=false:=by simpa using hn
 rw[h0,cond_false]
 unfold ak at hb
 by_cases hm:n≤1073741824
 ·rw[decide_eq_true hm,cond_true]
  have h1:((n==0) ||decide (n > 1073741824))=false:=by rw[h0,Bool.false_or,decide_eq_false_iff_not];exact Int.not_lt.2 hm
  rw[h1,cond_false]at hb
  have h2:((!(bv (d.reaches.getD (Int.toNat s1.2.2.2) (default:Reach)) n).2.1) ||(decide ((k:Int) < (d.reaches.getD (Int.toNat s1.2.2.2) (default:Reach)).delay)))=true:=by
   rcases hb with hb|hb
   ·cases hN:(bv (d.reaches.getD (Int.toNat s1.2.2.2) (default:Reach)) n).2.1 with
    |false=>rfl
    |true=>rw[hN]at hb;cases hb
   ·rw[decide_eq_true hb,Bool.or_true]
  rw[h2,cond_true]
  exact⟨_,rfl⟩
 ·rw[decide_eq_false hm,cond_false]
  rw[Bool.not_false,Bool.true_or,cond_true]
  exact⟨_,rfl⟩
theorem vT (hu:aK .timetableSlot .bool u (sl s1.2.2.2 k)=false)(hn:aK .timetableSlot .int w (sl s1.2.2.2 k)≠0)
  (hb:(ak (rch d s1.2.2.2) (aK .timetableSlot .int w (sl s1.2.2.2 k))).2=true) (hk:¬ (k:Int) < (rch d s1.2.2.2).delay):
  aA d s1 k (u,F,w)=.inr (u,F,cW .timetableSlot .int w (sl (rch d s1.2.2.2).up (IntKind.i64.wrap ((k:Int) - (rch d s1.2.2.2).delay))) (IntKind.i64.wrap (aK .timetableSlot .int w (sl (rch d s1.2.2.2).up (IntKind.i64.wrap ((k:Int) - (rch d s1.2.2.2).delay)))+(ak (rch d s1.2.2.2) (aK .timetableSlot .int w (sl s1.2.2.2 k))).1))):=by
 unfold aA
 unfold sl at hu hn hb ⊢
 simp only[hu,cond_false]
 generalize hq:aK .timetableSlot .int w ({ index:=s1.2.2.2,hour:=(k:Int)}:TimetableSlot)=n at hn hb ⊢
 have h0:(n==0)=false:=by simpa using hn
 rw[h0,cond_false]
 unfold ak at hb ⊢
 by_cases hm:n≤1073741824
 ·rw[decide_eq_true hm,cond_true]
  have h1:((n==0) ||decide (n > 1073741824))=false:=by rw[h0,Bool.false_or,decide_eq_false_iff_not];exact Int.not_lt.2 hm
  rw[h1,cond_false]at hb ⊢
  have hN:(bv (rch d s1.2.2.2) n).2.1=true:=by
   cases hN:(bv (rch d s1.2.2.2) n).2.1 with
   |true=>rfl
   |false=>rw[hN]at hb;cases hb
  have h2:((!(bv (d.reaches.getD (Int.toNat s1.2.2.2) (default:Reach)) n).2.1) ||(decide ((k:Int) < (d.reaches.getD (Int.toNat s1.2.2.2) (default:Reach)).delay)))=false:=by
   rw[decide_eq_false hk,Bool.or_false]
   show(!(bv (rch d s1.2.2.2) n).2.1)=false
   rw[hN];rfl
  rw[h2,cond_false,hN]
  rfl
 ·have h1:((n==0) ||decide (n > 1073741824))=true:=by rw[h0,Bool.false_or,decide_eq_true_eq];exact Int.not_le.1 hm
  rw[h1,cond_true,h0]at hb
  cases hb
theorem Ki:∃ u' T w',aA d s1 k (u,F,w)=.inr (u',F++T,w')∧∀ f∈T,f.kind=7:=by
 cases hu:aK .timetableSlot .bool u (sl s1.2.2.2 k)with
 |true=>obtain⟨u',e⟩:=HY (F:=F) (w:=w) hu;exact⟨u',[],w,by rw[e,List.append_nil],by simp⟩
 |false=>
  by_cases hn:aK .timetableSlot .int w (sl s1.2.2.2 k)=0
  ·exact⟨u,[],w,by rw[vS hu hn,List.append_nil],by simp⟩
  ·by_cases hb:(ak (rch d s1.2.2.2) (aK .timetableSlot .int w (sl s1.2.2.2 k))).2=false∨(k:Int) < (rch d s1.2.2.2).delay
   ·obtain⟨u',e⟩:=DJ (F:=F) hu hn hb
    exact⟨u',_,w,e,by simp[ltF]⟩
   ·have h1:(ak (rch d s1.2.2.2) (aK .timetableSlot .int w (sl s1.2.2.2 k))).2=true:=by
     cases q:(ak (rch d s1.2.2.2) (aK .timetableSlot .int w (sl s1.2.2.2 k))).2 with
     |true=>rfl
     |false=>exact absurd (.inl q) hb
    exact⟨u,[],_,by rw[vT hu hn h1 (fun q=>hb (.inr q)),List.append_nil],by simp⟩
end
section
variable {d:District}{s1:List Fault×WM×UM×Int}{items:List (List SV)}
theorem uM:∀ (n k:Nat) (u:UM) (F:List Fault) (w:WM),∃ u' T w',aw (aA d s1) n k (u,F,w)=.inr (u',F++T,w')∧∀ f∈T,f.kind=7
 |0,k,u,F,w=>⟨u,[],w,by rw[List.append_nil];rfl,by simp⟩
 |n+1,k,u,F,w=>by
  obtain⟨u1,T1,w1,e1,h1⟩:=Ki (d:=d) (s1:=s1) (k:=k) (u:=u) (F:=F) (w:=w)
  obtain⟨u2,T2,w2,e2,h2⟩:=uM n (k+1) u1 (F++T1) w1
  refine⟨u2,T1++T2,w2,?_,fun f hf=>(List.mem_append.1 hf).elim (h1 f) (h2 f)⟩
  simp only[aw,e1]
  rw[e2,List.append_assoc]
theorem xp {F:List Fault}{f:Fault}(h:(F++[f]).map d4<+:items):items[F.length]? =some (d4 f):=by
 obtain⟨t,rfl⟩:=h
 simp
theorem M8 {k:Nat}{u:UM}{F:List Fault}{w:WM}(h:∀ f,(∃ u' w',aA d s1 k (u,F,w)=.inr (u',F++[f],w'))→items[F.length]? =some (d4 f)):d8 d items s1 k (u,F,w):=by
 intro hu hn
 simp only at hu hn
 refine⟨fun hm=>⟨GG _ _,fun hb=>h _ ?_⟩,fun hm hb=>h _ ?_⟩
 ·unfold aA
  simp only at hm hb
  simp only[hu,hn,hm,hb,cond_false,cond_true]
  exact⟨_,_,rfl⟩
 ·unfold aA
  simp only at hm hb
  simp only[hu,hn,hm,hb,cond_false,cond_true]
  exact⟨_,_,rfl⟩
theorem Kj:∀ (n k:Nat) (u:UM) (F:List Fault) (w:WM),(∀ u2 F2 w2,aw (aA d s1) n k (u,F,w)=.inr (u2,F2,w2)→F2.map d4<+:items)→okI (aA d s1) (d8 d items s1) n k (u,F,w)
 |0,_,_,_,_,_=>trivial
 |n+1,k,u,F,w,h=>by
  refine⟨M8 fun f ⟨u',w',e⟩ =>?_,fun s' e=>?_⟩
  ·obtain⟨u2,T2,w2,e2,_⟩:=uM (d:=d) (s1:=s1) n (k+1) u' (F++[f]) w'
   have:=h u2 (F++[f]++T2) w2 (by simp only[aw,e];exact e2)
   refine xp (List.IsPrefix.trans ?_ this)
   rw[List.map_append (l₂:=T2)]
   exact List.prefix_append _ _
  ·obtain⟨u',F',w'⟩:=s'
   exact Kj n (k+1) u' F' w' fun u2 F2 w2 e2=>h u2 F2 w2 (by simp only[aw,e];exact e2)
end
section
variable {d:District}{items:List (List SV)}
theorem FD {j:Nat}{F:List Fault}{w:WM}{u:UM}{i:Int}(h:i<0):be d j (F,w,u,i)=.inl F:=by
 unfold be
 simp only
 rw[decide_eq_false (by omega),cond_false]
theorem DK {j:Nat}{F F':List Fault}{w w':WM}{u u':UM}{i:Int}(h0:0≤i)(h1:i≤1000000)(e:aw (aA d (F,w,u,i)) (Int.toNat d.hours) 0 (u,F,w)=.inr (u',F',w')):
  be d j (F,w,u,i)=.inr (F',w',u',i - 1):=by
 unfold be
 simp only
 rw[decide_eq_true (by omega),cond_true,e]
 simp only
 rw[bu (by omega) (by omega)]
theorem xq:∀ (m n j:Nat) (F:List Fault) (w:WM) (u:UM),m<n→m≤1000000→∃ T,aw (be d) n j (F,w,u,(m:Int) - 1)=.inl (F++T)∧∀ f∈T,f.kind=7
 |0,n+1,j,F,w,u,_,_=>⟨[],by simp only[aw];rw[FD (by omega),List.append_nil],by simp⟩
 |m+1,n+1,j,F,w,u,h,hm=>by
  obtain⟨u1,T1,w1,e1,h1⟩:=uM (d:=d) (s1:=(F,w,u,((m+1:Nat):Int) - 1)) (Int.toNat d.hours) 0 u F w
  obtain⟨T2,e2,h2⟩:=xq m n (j+1) (F++T1) w1 u1 (by omega) (by omega)
  refine⟨T1++T2,?_,fun f hf=>(List.mem_append.1 hf).elim (h1 f) (h2 f)⟩
  simp only[aw]
  rw[DK (by omega) (by omega) e1]
  simp only
  rw[show((m+1:Nat):Int) - 1 - 1=(m:Int) - 1 by omega,e2,List.append_assoc]
theorem Kk (hh:d.hours≤4096):∀ (m n j:Nat) (F:List Fault) (w:WM) (u:UM),m<n→m≤1000000→m≤d.reaches.length→(∀ x,aw (be d) n j (F,w,u,(m:Int) - 1)=.inl x→x.map d4<+:items)→
  okI (be d) (fo d items) n j (F,w,u,(m:Int) - 1)
 |0,n+1,j,F,w,u,_,_,_,h=>by
  refine⟨fun q=>?_,fun s' e=>?_⟩
  ·simp only[decide_eq_true_eq]at q;omega
  ·rw[FD (by omega)]at e;cases e
 |m+1,n+1,j,F,w,u,hmn,hm,hR,h=>by
  obtain⟨u1,T1,w1,e1,h1⟩:=uM (d:=d) (s1:=(F,w,u,((m+1:Nat):Int) - 1)) (Int.toNat d.hours) 0 u F w
  have e3:=DK (j:=j) (d:=d) (by omega) (by omega) e1
  rw[show((m+1:Nat):Int) - 1 - 1=(m:Int) - 1 by omega]at e3
  refine⟨fun q=>⟨by simp only;omega,by omega,Kj _ _ _ _ _ fun u2 F2 w2 e2=>?_⟩,fun s' e=>?_⟩
  ·simp only at e2
   rw[e1]at e2
   simp only[Sum.inr.injEq,Prod.mk.injEq]at e2
   obtain⟨rfl,rfl,rfl⟩:=e2
   obtain⟨T2,e4,_⟩:=xq (d:=d) m n (j+1) (F++T1) w1 u1 (by omega) (by omega)
   have:=h _ (by simp only[aw];rw[e3];exact e4)
   refine List.IsPrefix.trans ?_ this
   rw[List.map_append (l₂:=T2)]
   exact List.prefix_append _ _
  ·rw[e3]at e
   simp only[Sum.inr.injEq]at e
   subst e
   exact Kk hh m n (j+1) (F++T1) w1 u1 (by omega) (by omega) (by omega) fun x hx=>h x (by simp only[aw];rw[e3];exact hx)
end
end Go.Sx
end
section
namespace Go.Sx
open Go.Proofs
def Eqv (w:WM)(m:Mp):Prop:= ∀ a b,aK .timetableSlot .int w (sl a b)=aK .int2 .int m (a,b)
theorem FE {a b x y:Int}:(sl x y=sl a b)=((x,y)=(a,b)):=by
 unfold sl
 simp only[TimetableSlot.mk.injEq,Prod.mk.injEq]
theorem Eqv.put {w:WM}{m:Mp}(h:Eqv w m)(a b v:Int):Eqv (cW .timetableSlot .int w (sl a b) v) (cW .int2 .int m (a,b) v):=fun x y=>by
 rw[g7,g7,h]
 by_cases q:(x,y)=(a,b)
 ·rw[if_pos (by rw[FE];exact q),if_pos q]
 ·rw[if_neg (by rw[FE];exact q),if_neg q]
theorem ru {ρ σ τ:Type}(step:τ→σ→ρ⊕σ):∀ (A B:List τ) (s:σ),cF step (A++B) s=match cF step A s with| .inl y=>.inl y| .inr s'=>cF step B s'
 | [],B,s=>rfl
 |x::A,B,s=>by
  simp only[List.cons_append,cF]
  cases h:step x s with
  |inl y=>rfl
  |inr s'=>exact ru step A B s'
section
variable {d:District}{out:List Order}
theorem N9:∀ (n k:Nat) (w:WM) (m m':Mp),Eqv w m→aw (a_ d out) n k m=.inr m'→∃ w',aw (b9 out d) n k w=.inr w'∧Eqv w' m'
 |0,k,w,m,m',h,e=>by
  simp only[aw,Sum.inr.injEq]at e
  subst e
  exact⟨w,rfl,h⟩
 |n+1,k,w,m,m',h,e=>by
  simp only[aw]at e ⊢
  cases hs:a_ d out k m with
  |inl x=>rw[hs]at e;cases e
  |inr m1=>
   rw[hs]at e
   simp only at e
   refine N9 n (k+1) _ m1 m' ?_ e
   unfold a_ at hs
   cases ho:(out.getD k (default:Order)).outlet with
   |false=>rw[ho]at hs;cases hs
   |true=>
    rw[ho]at hs
    simp only[Bool.not_true,cond_false,Sum.inr.injEq]at hs
    subst hs
    have h1:=h (d.farms.getD (Int.toNat ((out.getD k (default:Order)).index)) (default:Farm)).reach (out.getD k (default:Order)).hour
    have:=h.put (d.farms.getD (Int.toNat ((out.getD k (default:Order)).index)) (default:Farm)).reach (out.getD k (default:Order)).hour (IntKind.i64.wrap ((aK .int2 .int m ((d.farms.getD (Int.toNat ((out.getD k (default:Order)).index)) (default:Farm)).reach,(out.getD k (default:Order)).hour))+(out.getD k (default:Order)).litres))
    rw[←h1]at this ⊢
    exact this
theorem B7 (s:TimetableSlot):aK .timetableSlot .bool [] s=false:=rfl
theorem y6 {s1:List Fault×WM×UM×Int}{r:Nat}(hs:s1.2.2.2=(r:Int)){H:Nat}:∀ (n k:Nat) (l:List Order) (m:Mp) (w:WM),k+n=H→Eqv w m→
  (∃ l' m' w',cF (aF d) (uI r H k) (l,m)=.inr (l',m')∧aw (aA d s1) n k ([],[],w)=.inr ([],[],w')∧Eqv w' m')∨
  ((∃ y,cF (aF d) (uI r H k) (l,m)=.inl y)∧∃ u' F' w',aw (aA d s1) n k ([],[],w)=.inr (u',F',w')∧F'≠[])
 |0,k,l,m,w,hk,h=>by
  have:k=H:=by omega
  subst this
  rw[o7]
  exact .inl ⟨l,m,w,rfl,rfl,h⟩
 |n+1,k,l,m,w,hk,h=>by
  rw[kR (by omega:k<H)]
  have hg:=h (r:Int) (k:Int)
  rw[←hs]at hg
  simp only[cF,aw]
  by_cases h0:aK .timetableSlot .int w (sl s1.2.2.2 k)=0
  ·have e1:aF d ((r:Int),(k:Int)) (l,m)=.inr (l,m):=by
    unfold aF
    rw[h0,hs]at hg
    simp only[←hg,BEq.rfl,cond_true]
   rw[e1,vS (B7 _) h0]
   exact y6 hs n (k+1) l m w (by omega) h
  ·by_cases hb:(ak (rch d s1.2.2.2) (aK .timetableSlot .int w (sl s1.2.2.2 k))).2=false∨(k:Int) < (rch d s1.2.2.2).delay
   ·refine .inr ⟨?_,?_⟩
    ·have e1:aF d ((r:Int),(k:Int)) (l,m)=.inl m:=by
      unfold aF
      rw[hg,hs]at h0 hb
      have h1:(aK .int2 .int m ((r:Int),(k:Int)) ==(0:Int))=false:=beq_eq_false_iff_ne.2 h0
      simp only[h1,cond_false]
      have h2:((!(ak (d.reaches.getD (Int.toNat (r:Int)) (default:Reach)) (aK .int2 .int m ((r:Int),(k:Int)))).2) ||(decide ((k:Int) < (d.reaches.getD (Int.toNat (r:Int)) (default:Reach)).delay)))=true:=by
       rcases hb with hb|hb
       ·rw[hb];rfl
       ·rw[decide_eq_true hb,Bool.or_true]
      rw[h2,cond_true]
     rw[e1]
     exact⟨_,rfl⟩
    ·obtain⟨u',e⟩:=DJ (F:=[]) (B7 _) h0 hb
     rw[e]
     obtain⟨u2,T2,w2,e2,_⟩:=uM (d:=d) (s1:=s1) n (k+1) u' ([]++[ltF k s1.2.2.2 (aK .timetableSlot .int w (sl s1.2.2.2 k))]) w
     exact⟨u2,_,w2,e2,by simp⟩
   ·have hv:(ak (rch d s1.2.2.2) (aK .timetableSlot .int w (sl s1.2.2.2 k))).2=true:=by
     cases q:(ak (rch d s1.2.2.2) (aK .timetableSlot .int w (sl s1.2.2.2 k))).2 with
     |true=>rfl
     |false=>exact absurd (.inl q) hb
    have hk2:¬ (k:Int) < (rch d s1.2.2.2).delay:=fun q=>hb (.inr q)
    rw[vT (B7 _) h0 hv hk2]
    rw[hg]at h0 hv ⊢
    rw[hs]at h0 hv hk2 ⊢
    have e1:aF d ((r:Int),(k:Int)) (l,m)=.inr (l++[({ hour:=(IntKind.i64.wrap ((k:Int) - (rch d (r:Int)).delay)),index:=(r:Int),litres:=(ak (rch d (r:Int)) (aK .int2 .int m ((r:Int),(k:Int)))).1,outlet:=false}:Order)],cW .int2 .int m ((rch d (r:Int)).up,IntKind.i64.wrap ((k:Int) - (rch d (r:Int)).delay)) (IntKind.i64.wrap ((aK .int2 .int m ((rch d (r:Int)).up,IntKind.i64.wrap ((k:Int) - (rch d (r:Int)).delay)))+(ak (rch d (r:Int)) (aK .int2 .int m ((r:Int),(k:Int)))).1))):=by
     unfold aF
     have h1:(aK .int2 .int m ((r:Int),(k:Int)) ==(0:Int))=false:=beq_eq_false_iff_ne.2 h0
     simp only[h1,cond_false]
     have h2:((!(ak (d.reaches.getD (Int.toNat (r:Int)) (default:Reach)) (aK .int2 .int m ((r:Int),(k:Int)))).2) ||(decide ((k:Int) < (d.reaches.getD (Int.toNat (r:Int)) (default:Reach)).delay)))=false:=by
      rw[decide_eq_false hk2,Bool.or_false]
      show(!(ak (rch d (r:Int)) (aK .int2 .int m ((r:Int),(k:Int)))).2)=false
      rw[hv];rfl
     rw[h2,cond_false]
    rw[e1,h]
    exact y6 hs n (k+1) _ _ _ (by omega) (h.put _ _ _)
theorem DL:∀ (m n j:Nat) (l:List Order) (md:Mp) (w:WM),m<n→m≤1000000→Eqv w md→(∃ y,cF (aF d) (pC d.hours.toNat m) (l,md)=.inl y)→
  ∃ T,aw (be d) n j ([],w,[],(m:Int) - 1)=.inl T∧T≠[]
 |0,n,j,l,md,w,_,_,_,⟨y,e⟩ =>by simp[pC,cF]at e
 |m+1,n+1,j,l,md,w,hmn,hm,h,⟨y,e⟩ =>by
  rw[o8]at e
  have hs:(([],w,[],((m+1:Nat):Int) - 1):List Fault×WM×UM×Int).2.2.2=(m:Int):=by simp only;omega
  rcases y6 (d:=d) hs (H:=d.hours.toNat) d.hours.toNat 0 l md w (by omega) h with⟨l',m',w',e1,e2,h'⟩ | ⟨_,u',F',w',e2,hF⟩
  ·rw[ru,e1]at e
   obtain⟨T,e3,hT⟩:=DL m n (j+1) l' m' w' (by omega) (by omega) h' ⟨y,e⟩
   refine⟨T,?_,hT⟩
   simp only[aw]
   rw[DK (by omega) (by omega) e2,show((m+1:Nat):Int) - 1 - 1=(m:Int) - 1 by omega]
   exact e3
  ·obtain⟨T,e3,_⟩:=xq (d:=d) m n (j+1) F' w' u' (by omega) (by omega)
   refine⟨F'++T,?_,by simp[hF]⟩
   simp only[aw]
   rw[DK (by omega) (by omega) e2,show((m+1:Nat):Int) - 1 - 1=(m:Int) - 1 by omega]
   exact e3
theorem tD (hr:Right1 d)(ho:Orders1 d out)(hall:∀ x∈out,x.outlet=true):∃ w0,aw (b9 out d) out.length 0 []=.inr w0∧(∃ m,aw (a_ d out) out.length 0 []=.inr m∧Eqv w0 m)∧
  aw (be d) (d.reaches.length+1) 0 ([],w0,[],IntKind.i64.wrap ((d.reaches.length:Int) - 1))=.inl (aR out d)∧∀ f∈aR out d,f.kind=7:=by
 obtain⟨m,hm⟩:=(sa hr ho).2.2 hall
 obtain⟨w0,e0,h0⟩:=N9 out.length 0 [] [] m (fun _ _=>rfl) hm
 have hR:=hr.reaches
 obtain⟨T,e1,h1⟩:=xq (d:=d) d.reaches.length (d.reaches.length+1) 0 [] w0 [] (by omega) (by omega)
 have hw:IntKind.i64.wrap ((d.reaches.length:Int) - 1)=(d.reaches.length:Int) - 1:=bu (by omega) (by omega)
 have e2:aR out d=T:=by
  unfold aR
  rw[hw]
  simp only[e0,e1,List.nil_append]
 rw[hw,e2]
 exact⟨w0,e0,⟨m,hm,h0⟩,by rw[e1,List.nil_append],h1⟩
theorem P8 (hr:Right1 d)(ho:Orders1 d out)(hall:∀ x∈out,x.outlet=true):fh out d ((aR out d).map d4):=by
 obtain⟨w0,e0,_,e1,_⟩:=tD hr ho hall
 intro _
 have hR:=hr.reaches
 have hh:=hr.hours
 refine⟨?_,fun s_0 hs _=>?_⟩
 ·have hst:∀ j s,0≤j→j<0+out.length→fm out d j s:=fun j s _ hj=>by
   have h1:=ho.one j (by omega)
   have h2:(out.getD j (default:Order)).outlet=true:=hall _ (mZ _ _ (by omega))
   exact⟨h1.index0,h1.farm h2⟩
  exact gT (fun _ _=>True) _ _ _ trivial fun j s h1 h2 _=>⟨hst j s h1 h2,fun _ _=>trivial⟩
 ·rw[e0]at hs
  simp only[Sum.inr.injEq]at hs
  subst hs
  have hw:IntKind.i64.wrap ((d.reaches.length:Int) - 1)=(d.reaches.length:Int) - 1:=bu (by omega) (by omega)
  refine⟨?_,fun z hz=>?_,fun x hx=>?_⟩
  ·rw[hw]at e1 ⊢
   exact Kk hh _ _ _ _ _ _ (by omega) (by omega) (Nat.le_refl _) fun x hx=>by
    rw[e1]at hx
    simp only[Sum.inl.injEq]at hx
    subst hx
    exact List.prefix_rfl
  ·rw[e1]at hz;cases hz
  ·rw[e1]at hx
   simp only[Sum.inl.injEq]at hx
   subst hx
   simp
theorem M9 (hr:Right1 d)(ho:Orders1 d out)(hall:∀ x∈out,x.outlet=true)(hP:(am d out).2.1=false)(hP2:(am d out).2.2=0):aR out d≠[]:=by
 obtain⟨w0,e0,⟨m,hm,h0⟩,e1,_⟩:=tD hr ho hall
 have hR:=hr.reaches
 have hw:IntKind.i64.wrap ((d.reaches.length:Int) - 1)=(d.reaches.length:Int) - 1:=bu (by omega) (by omega)
 have hy:∃ y,cF (aF d) (bq d) (out,m)=.inl y:=by
  cases q:cF (aF d) (bq d) (out,m)with
  |inl y=>exact⟨y,rfl⟩
  |inr s=>
   exfalso
   unfold am at hP hP2
   simp only[hm,q]at hP hP2
   cases hn:((bp d out) !=0)with
   |true=>
    rw[hn]at hP2
    simp only[cond_true]at hP2
    rw[hP2]at hn;cases hn
   |false=>
    rw[hn]at hP hP2
    simp only[cond_false]at hP hP2
    cases hd:decide ((s.1.length:Int) > 4096)with
    |true=>rw[hd]at hP2;cases hP2
    |false=>rw[hd]at hP;cases hP
 obtain⟨T,e3,hT⟩:=DL (d:=d) d.reaches.length (d.reaches.length+1) 0 out m w0 (by omega) (by omega) h0 hy
 rw[hw,e3]at e1
 simp only[Sum.inl.injEq]at e1
 rw[←e1]
 exact hT
end
abbrev F5:=Int×Int×Int×Int×Int
def vU (f:Fault):F5:=(f.kind,f.hour,f.index,f.litres,f.limit)
theorem B8 (out:List Order)(d:District):∀ (L:List Fault) (s:F5),∃ s',cF (a7 out d) L s=.inr s'∧(s'=s∨∃ f∈L,s'=vU f)
 | [],s=>⟨s,rfl,.inl rfl⟩
 |f::L,s=>by
  have h1:a7 out d f s=.inr (vU f)∨a7 out d f s=.inr s:=by
   unfold a7 vU
   cases(((s.1==0)&&((s.2.1==0)&&((s.2.2.1==0)&&((s.2.2.2.1==0)&&(s.2.2.2.2==0))))) ||(decide ((bD ([(aO f.hour s.2.1),(aO s.2.2.1 f.index)])) <0)))with
   |true=>exact .inl rfl
   |false=>exact .inr rfl
  simp only[cF]
  rcases h1 with h1|h1
  ·rw[h1]
   obtain⟨s',e,h⟩:=B8 out d L (vU f)
   refine⟨s',e,.inr ?_⟩
   rcases h with rfl| ⟨g,hg,rfl⟩
   ·exact⟨f,List.mem_cons_self,rfl⟩
   ·exact⟨g,List.mem_cons_of_mem _ hg,rfl⟩
  ·rw[h1]
   obtain⟨s',e,h⟩:=B8 out d L s
   refine⟨s',e,?_⟩
   rcases h with rfl| ⟨g,hg,rfl⟩
   ·exact .inl rfl
   ·exact .inr ⟨g,List.mem_cons_of_mem _ hg,rfl⟩
theorem HZ {out:List Order}{d:District}(h:aR out d≠[]):dC out d∈aR out d:=by
 unfold dC
 cases hL:aR out d with
 |nil=>exact absurd hL h
 |cons f L=>
  have h1:a7 out d f (0,0,0,0,0)=.inr (vU f):=by
   unfold a7 vU
   simp only[BEq.rfl,Bool.and_true,Bool.true_or,cond_true]
  obtain⟨s',e,h⟩:=B8 out d L (vU f)
  simp only[cF,h1,e]
  rcases h with rfl| ⟨g,hg,rfl⟩
  ·exact List.mem_cons_self
  ·exact List.mem_cons_of_mem _ hg
end Go.Sx
end
section
namespace Go.Sx
open Go.Proofs
theorem vV {f:Nat→List Fault}{step:Nat→List Fault→Empty⊕List Fault}:∀ (n i:Nat) (s:List Fault),(∀ j s,i≤j→j<i+n→step j s=.inr (s++f j))→aw step n i s=.inr (s++(List.range' i n).flatMap f)
 |0,i,s,_=>by simp[aw]
 |n+1,i,s,h=>by
  simp only[aw,h i s (Nat.le_refl _) (by omega)]
  rw[vV n (i+1) (s++f i) fun j s h1 h2=>h j s (by omega) (by omega)]
  simp[List.range'_succ]
theorem y7 {f:Nat→List Fault}{step:Nat→List Fault→Empty⊕List Fault}{p:Nat→List Fault→Prop}{items:List (List SV)}:∀ (n i:Nat) (s:List Fault),(∀ j s,i≤j→j<i+n→step j s=.inr (s++f j))→
  (∀ j s,i≤j→j<i+n→(s++f j).map d4<+:items→p j s)→(s++(List.range' i n).flatMap f).map d4<+:items→okI step p n i s
 |0,_,_,_,_,_=>trivial
 |n+1,i,s,h,hp,hi=>by
  rw[List.range'_succ,List.flatMap_cons,←List.append_assoc]at hi
  refine⟨hp i s (Nat.le_refl _) (by omega) (List.IsPrefix.trans (by rw[List.map_append (l₂:=List.flatMap f _)];exact List.prefix_append _ _) hi),fun s' e=>?_⟩
  rw[h i s (Nat.le_refl _) (by omega)]at e
  simp only[Sum.inr.injEq]at e
  subst e
  exact y7 n (i+1) (s++f i) (fun j s h1 h2=>h j s (by omega) (by omega)) (fun j s h1 h2=>hp j s (by omega) (by omega)) hi
def g0P (x:Order):Bool:= !x.outlet&&x.index==0
section
variable {d:District}{l:List Order}
theorem FF (ho:Orders1 d l):∃ s0,aw (aQ l) l.length 0 ([],0)=.inr s0∧(∀ r h,aK .timetableSlot .int s0.1 (sl r h)=cm (c9 r h h) l)∧s0.2=cm g0P l:=by
 obtain⟨s,e,h1,h2⟩:=B2 (step:=aQ l) (fun j s=>(∀ r h,aK .timetableSlot .int s.1 (sl r h)=cm (c9 r h h) (l.take j))∧s.2=cm g0P (l.take j)) l.length 0 ([],0) ⟨fun _ _=>rfl,rfl⟩ (fun j s _ hj ⟨h1,h2⟩ =>by
  have hj:j<l.length:=by omega
  have hb:=GQ ho g0P j
  have hlit:=ho.lit _ (List.getElem_mem hj)
  unfold aQ
  rw[cI _ _ hj]
  cases hout:l[j].outlet with
  |true=>
   refine⟨_,rfl,fun r h=>?_,?_⟩
   ·rw[kQ hj,h1]
    have:c9 r h h l[j]=false:=by unfold c9;rw[hout];rfl
    rw[this];simp
   ·rw[kQ hj,h2]
    have:g0P l[j]=false:=by unfold g0P;rw[hout];rfl
    rw[this];simp
  |false=>
   have hg:∀ r h,aK .timetableSlot .int (cW .timetableSlot .int s.1 (sl l[j].index l[j].hour) l[j].litres) (sl r h)=cm (c9 r h h) (l.take (j+1)):=fun r h=>by
    rw[g7,kQ hj,h1]
    by_cases q:r=l[j].index∧h=l[j].hour
    ·obtain⟨rfl,rfl⟩:=q
     have hp:c9 l[j].index l[j].hour l[j].hour l[j]=true:=by unfold c9;rw[hout];simp
     rw[if_pos rfl,hp,HW ho hj (fun x hx=>?_)]
     ·simp
     ·unfold c9 at hx
      simp only[Bool.and_eq_true,Bool.not_eq_true',beq_iff_eq,decide_eq_true_eq]at hx
      exact⟨by omega,hx.1.1.2,by rw[hx.1.1.1,hout]⟩
    ·have hp:c9 r h h l[j]=false:=by
      cases hc:c9 r h h l[j]with
      |false=>rfl
      |true=>
       unfold c9 at hc
       simp only[Bool.and_eq_true,Bool.not_eq_true',beq_iff_eq,decide_eq_true_eq]at hc
       exact absurd ⟨hc.1.1.2.symm,by omega⟩ q
     rw[if_neg (fun e=>q (by rw[FE]at e;simp only[Prod.mk.injEq]at e;exact e)),hp]
     simp
   by_cases h0:l[j].index=0
   ·have hb0:(l[j].index==0)=true:=by rw[h0];rfl
    simp only[Bool.not_false,cond_true,hb0]
    refine⟨_,rfl,hg,?_⟩
    have:g0P l[j]=true:=by unfold g0P;rw[hout,hb0];rfl
    rw[kQ hj,this,h2,bu (by omega) (by omega),cond_true]
   ·have hb0:(l[j].index==0)=false:=by simpa using h0
    simp only[Bool.not_false,cond_true,hb0,cond_false]
    refine⟨_,rfl,hg,?_⟩
    have:g0P l[j]=false:=by unfold g0P;rw[hout,hb0];rfl
    rw[kQ hj,this,h2]
    simp)
 rw[Nat.zero_add,List.take_length]at h1 h2
 exact⟨s,e,h1,h2⟩
theorem Kl (ho:Orders1 d l){s0:WM×Int}(hg:∀ r h,aK .timetableSlot .int s0.1 (sl r h)=cm (c9 r h h) l)(h i:Nat)(hh:h≤1000000)(n:Nat)(hn:n≤1000000):
  aw (d9 d s0 h i) n 0 0=.inr (cm (c9 i ((h:Int) - n+1) h) l):=by
 obtain⟨s,e,h1⟩:=B2 (step:=d9 d s0 h i) (fun j s=>s=cm (c9 i ((h:Int) - j+1) h) l) n 0 0 (iu (fun x _=>by
   cases hc:c9 i ((h:Int) - (0:Nat)+1) h x with
   |false=>rfl
   |true=>
    unfold c9 at hc
    simp only[Bool.and_eq_true,decide_eq_true_eq]at hc
    omega)).symm (fun j s _ hj hs=>by
  refine⟨_,rfl,?_⟩
  have e1:=hg (i:Int) ((h:Int) - (j:Int))
  unfold sl at e1
  have e2:=Kc ho (i:Int) (a:=(h:Int) - j) (m:=(h:Int) - j+1) (b:=(h:Int)) (by omega) (by omega)
  have e3:=Kb ho (c9 i ((h:Int) - j) ((h:Int) - j))
  have e4:=Kb ho (c9 i ((h:Int) - j+1) h)
  rw[show(h:Int) - j+1 - 1=(h:Int) - j by omega]at e2
  rw[bu (n:=(h:Int) - (j:Int)) (by omega) (by omega),e1,hs,bu (by omega) (by omega),show(h:Int) - ((j+1:Nat):Int)+1=(h:Int) - j by omega]
  omega)
 rw[e,h1,Nat.zero_add]
def bk (d:District)(l:List Order)(h i:Nat):List Fault:=
 (if cm (c9 i h h) l > (rch d i).cap then [{ kind:=1,hour:=(h:Int),index:=(i:Int),litres:=cm (c9 i h h) l,limit:=(rch d i).cap}]else [])++
 (if cm (c9 i ((h:Int) - (rch d i).delay+1) h) l > (rch d i).bank then [{ kind:=3,hour:=(h:Int),index:=(i:Int),litres:=cm (c9 i ((h:Int) - (rch d i).delay+1) h) l,limit:=(rch d i).bank}]else [])
theorem GU (ho:Orders1 d l){s0:WM×Int}(hg:∀ r h,aK .timetableSlot .int s0.1 (sl r h)=cm (c9 r h h) l){h i:Nat}(hh:h≤1000000)(hi:i<d.reaches.length)(s:List Fault){items:List (List SV)}:
  dx d s0 h i s=.inr (s++bk d l h i)∧((s++bk d l h i).map d4<+:items→eI d items s0 h i s):=by
 have hx:=ho.right.reach1 hi
 have hd1:=hx.delay1
 have hd2:=hx.delay
 have e1:=Kl ho hg h i hh (Int.toNat (d.reaches.getD i (default:Reach)).delay) (by omega)
 have e2:=hg (i:Int) (h:Int)
 unfold sl at e2
 have e3:((Int.toNat (d.reaches.getD i (default:Reach)).delay:Nat):Int)=(rch d (i:Int)).delay:=by
  show _=(d.reaches.getD (Int.toNat (i:Int)) (default:Reach)).delay
  rw[Int.toNat_natCast];omega
 rw[e3]at e1
 have e4:d.reaches.getD i (default:Reach)=rch d (i:Int):=by show _=d.reaches.getD (Int.toNat (i:Int)) default;rw[Int.toNat_natCast]
 have hdl:(d.reaches.getD i (default:Reach)).delay<9223372036854775808:=by omega
 refine⟨?_,fun hp=>⟨hdl,fun s3 h3=>?_⟩⟩
 ·unfold dx bk
  simp only[e1,e2]
  rw[e4]
  generalize cm (c9 i ((h:Int) - (rch d (i:Int)).delay+1) h) l=B
  generalize cm (c9 i h h) l=A
  generalize rch d (i:Int)=x
  by_cases c1:A > x.cap <;>by_cases c2:B > x.bank <;>simp[c1,c2]
 ·rw[e1]at h3
  simp only[Sum.inr.injEq]at h3
  subst h3
  simp only[e2]
  rw[e4]
  unfold bk at hp
  generalize cm (c9 i ((h:Int) - (rch d (i:Int)).delay+1) h) l=B at hp ⊢
  generalize cm (c9 i h h) l=A at hp ⊢
  generalize rch d (i:Int)=x at hp ⊢
  refine⟨fun q1=>⟨?_,fun q2=>?_,fun q=>q⟩,fun q1=>⟨q1,fun q2=>?_,fun q=>q⟩⟩
  ·rw[if_pos (of_decide_eq_true q1),←List.append_assoc]at hp
   refine xp (List.IsPrefix.trans ?_ hp)
   rw[List.map_append (l₁:=s++_)]
   exact List.prefix_append _ _
  ·rw[if_pos (of_decide_eq_true q1),if_pos (of_decide_eq_true q2),←List.append_assoc]at hp
   exact xp hp
  ·rw[if_neg (of_decide_eq_false q1),if_pos (of_decide_eq_true q2),List.nil_append]at hp
   exact xp hp
def bkH (d:District)(l:List Order)(h:Nat):List Fault:=(List.range' 0 d.reaches.length).flatMap (bk d l h)
theorem GV (ho:Orders1 d l){s0:WM×Int}(hg:∀ r h,aK .timetableSlot .int s0.1 (sl r h)=cm (c9 r h h) l){h:Nat}(hh:h≤1000000)(s:List Fault){items:List (List SV)}:
  cU d s0 h s=.inr (s++bkH d l h)∧((s++bkH d l h).map d4<+:items→eJ d items s0 h s):=by
 have key:∀ j s,0≤j→j<0+d.reaches.length→dx d s0 h j s=.inr (s++bk d l h j):=fun j s _ hj=>(GU ho hg hh (by omega) s (items:=items)).1
 refine⟨?_,fun hp _=>?_⟩
 ·unfold cU
  rw[vV d.reaches.length 0 s key]
  rfl
 ·exact y7 d.reaches.length 0 s key (fun j s _ hj hq=>(GU ho hg hh (by omega) s).2 hq) hp
def sG (d:District)(l:List Order):List Fault:=(List.range' 0 d.hours.toNat).flatMap (bkH d l)++(if cm g0P l > d.tank.start then [{ kind:=4,hour:=0,index:=0,litres:=cm g0P l,limit:=d.tank.start}]else [])
theorem AX (ho:Orders1 d l):bK l d=sG d l∧dI l d ((bK l d).map d4):=by
 obtain⟨s0,e0,hg,h0⟩:=FF ho
 have hh:=ho.right.hours
 have key:∀ j s,0≤j→j<0+d.hours.toNat→cU d s0 j s=.inr (s++bkH d l j):=fun j s _ hj=>(GV ho hg (by omega) s (items:=[])).1
 have e1:=vV d.hours.toNat 0 [] key
 have e2:bK l d=sG d l:=by
  unfold bK sG
  simp only[e0,e1,h0,List.nil_append]
  by_cases c:cm g0P l > d.tank.start
  ·rw[decide_eq_true c,cond_true,if_pos c]
  ·rw[decide_eq_false c,cond_false,if_neg c,List.append_nil]
 refine⟨e2,?_⟩
 rw[e2]
 intro _ s hs
 rw[e0]at hs
 simp only[Sum.inr.injEq]at hs
 subst hs
 refine⟨by omega,?_,fun s1 hs1=>?_⟩
 ·refine y7 d.hours.toNat 0 [] key (fun j s _ hj hq=>(GV ho hg (by omega) s).2 hq) ?_
  unfold sG
  rw[List.nil_append,List.map_append]
  exact List.prefix_append _ _
 ·rw[e1]at hs1
  simp only[List.nil_append,Sum.inr.injEq]at hs1
  subst hs1
  rw[h0]
  unfold sG
  by_cases c:cm g0P l > d.tank.start
  ·rw[decide_eq_true c,if_pos c]
   simp
  ·rw[decide_eq_false c,if_neg c]
   simp
structure Lim (d:District)(l:List Order):Prop where
 cap:∀ h i:Nat,h<d.hours.toNat→i<d.reaches.length→cm (c9 i h h) l≤(rch d i).cap
 bank:∀ h i:Nat,h<d.hours.toNat→i<d.reaches.length→cm (c9 i ((h:Int) - (rch d i).delay+1) h) l≤(rch d i).bank
 tank:cm g0P l≤d.tank.start
theorem FG:∀ f∈sG d l,f.kind≠0∧f.limit<f.litres:=by
 intro f hf
 unfold sG bkH bk at hf
 simp only[List.mem_append,List.mem_flatMap]at hf
 rcases hf with⟨h,_,i,_,hf|hf⟩ |hf
 all_goals
  split at hf
  ·rename_i c
   simp only[List.mem_cons,List.not_mem_nil,or_false]at hf
   subst hf
   exact⟨by simp,c⟩
  ·cases hf
end
end Go.Sx
end
section
namespace Go.Sx
open Go.Proofs
section
variable {d:District}{c:List Claim}
theorem lw (s:List Order):aJ s=true↔∃ x∈s,x.litres > 1073741824:=by
 unfold aJ cn
 have hst:∀ j,aY s j ()=bif decide ((s.getD j default).litres > 1073741824)then .inl (j:Int)else .inr ():=fun j=>rfl
 have key:∀ n i,(∀ j,i≤j→j<i+n→¬ (s.getD j default).litres > 1073741824)→aw (aY s) n i ()=.inr ():=by
  intro n
  induction n with
  |zero=>intro i _;rfl
  |succ n ih=>
   intro i h
   simp only[aw,hst]
   rw[decide_eq_false (h i (Nat.le_refl _) (by omega)),cond_false]
   exact ih (i+1) fun j h1 h2=>h j (by omega) (by omega)
 have key2:∀ n i x,aw (aY s) n i ()=.inl x→0≤x∧∃ j,i≤j∧j<i+n∧(s.getD j default).litres > 1073741824:=by
  intro n
  induction n with
  |zero=>intro i x h;cases h
  |succ n ih=>
   intro i x h
   simp only[aw,hst]at h
   by_cases q:(s.getD i default).litres > 1073741824
   ·rw[decide_eq_true q,cond_true]at h
    simp only[Sum.inl.injEq]at h
    exact⟨by omega,i,Nat.le_refl _,by omega,q⟩
   ·rw[decide_eq_false q,cond_false]at h
    obtain⟨h1,j,h2,h3,h4⟩:=ih (i+1) x h
    exact⟨h1,j,by omega,by omega,h4⟩
 constructor
 ·intro h
  cases hr:aw (aY s) s.length 0 ()with
  |inl x=>
   obtain⟨_,j,_,hj,hl⟩:=key2 _ _ _ hr
   exact⟨_,mZ s default (by omega),hl⟩
  |inr u=>rw[hr]at h;simp at h
 ·rintro⟨x,hx,hl⟩
  obtain⟨j,hj,rfl⟩:=List.getElem_of_mem hx
  cases hr:aw (aY s) s.length 0 ()with
  |inl x=>have:=(key2 _ _ _ hr).1;simp only[decide_eq_true_eq];omega
  |inr u=>
   have h1:=yL hr j (Nat.zero_le _) (by omega)
   rw[hst,cI _ _ hj,decide_eq_true hl]at h1
   cases h1
structure Askd (d:District)(c:List Claim):Prop where
 chk:bt d c=0
 wide:(d.reaches.length:Int)*d.hours≤1024
 lit:∀ x∈aq c,x.litres≤1073741824
theorem xr (h:bt d c=0):okL1 c:=by
 obtain⟨_,h2,h3,_⟩:=(nL d c).1 h
 exact⟨h2,fun a ha=>FC (h3 a ha)⟩
theorem DN (h:bt d c=0):Right1 d:=q_ (by rw[((nL d c).1 h).1];rfl)
theorem B9 (h:bt d c=0):IntKind.i64.wrap ((d.reaches.length:Int)*d.hours)=(d.reaches.length:Int)*d.hours:=by
 have:=sb (DN h)
 exact bu (by omega) (by omega)
theorem o9:(ag d c).2=0↔Askd d c:=by
 unfold ag
 by_cases h1:bt d c=0
 ·rw[h1]
  simp only[bne_self_eq_false,cond_false]
  rw[B9 h1]
  by_cases h2:(d.reaches.length:Int)*d.hours > 1024
  ·rw[decide_eq_true h2,cond_true]
   constructor
   ·intro h;cases h
   ·intro h;have:=h.wide;omega
  ·rw[decide_eq_false h2,cond_false]
   cases h3:aJ (aq c)with
   |true=>
    rw[cond_true]
    obtain⟨x,hx,hl⟩:=(lw _).1 h3
    constructor
    ·intro h;cases h
    ·intro h;have:=h.lit x hx;omega
   |false=>
    rw[cond_false]
    refine⟨fun _=>⟨h1,by omega,fun x hx=>?_⟩,fun _=>rfl⟩
    by_cases q:x.litres > 1073741824
    ·have:=(lw _).2 ⟨x,hx,q⟩
     rw[h3]at this;cases this
    ·omega
 ·have:(bt d c !=0)=true:=by simpa using h1
  rw[this,cond_true]
  exact⟨fun h=>absurd h h1,fun h=>absurd h.chk h1⟩
theorem AY (h:Askd d c):ag d c=(aq c,0):=by
 have h2:=o9.2 h
 unfold ag at h2 ⊢
 rw[h.chk]at h2 ⊢
 simp only[bne_self_eq_false,cond_false]at h2 ⊢
 rw[B9 h.chk]at h2 ⊢
 rw[decide_eq_false (by have:=h.wide;omega),cond_false]at h2 ⊢
 cases h3:aJ (aq c)with
 |true=>rw[h3]at h2;cases h2
 |false=>rfl
theorem DO (d:District)(c:List Claim):dR d c:=by
 refine⟨HU d c,fun h _ _=>HX (xr (d:=d) ?_)⟩
 simpa using h
theorem Askd.outs (h:Askd d c):Outs c (aq c):=Sx.outs (xr h.chk)
theorem Askd.nar (h:Askd d c):Nar d (aq c):=by
 obtain⟨h1,h2,h3,_⟩:=(nL d c).1 h.chk
 have ho:=h.outs
 refine⟨⟨h1,Nat.le_trans ho.len h2,fun x hx=>?_,ho.asc⟩,h.wide⟩
 obtain⟨a,ha,e1,e2⟩:=ho.src x hx
 have hk:=h3 a ha
 unfold okC at hk
 simp only[Bool.and_eq_true,decide_eq_true_eq]at hk
 have hout:=ho.out x hx
 have hl:=ho.lit x hx
 have hl2:=h.lit x hx
 exact⟨by omega,by omega,by omega,fun _=>by omega,fun q=>(by rw[hout]at q;cases q),hl.2,hl2⟩
theorem DP (d:District)(c:List Claim):dS d c:=by
 refine⟨DO d c,fun h=>?_⟩
 have hA:Askd d c:=o9.1 (by simpa using h)
 have ha:=AY hA
 rw[ha]
 have hN:=hA.nar
 have hall:=hA.outs.out
 refine⟨P4 _ _,fun h2=>⟨fun _=>?_,fun h3=>?_⟩⟩
 ·exact P8 hN.good.right hN.good.orders hall
 ·rcases tA d (aq c)with⟨_,e⟩ | ⟨_,_,e⟩ | ⟨_,_,_,e⟩ | ⟨_,_,gs,_,_,e⟩ | ⟨_,_,gs,hP,e⟩
  ·rw[e]at h3;cases h3
  ·rw[e]at h3;cases h3
  ·rw[e]at h3;cases h3
  ·rw[e]at h3;cases h3
  ·rw[e]
   exact(AX hP.good.orders).2
theorem xu (d:District)(c:List Claim):dl d c:=DP d c
theorem y8 (d:District)(c:List Claim):eK d c:=DP d c
structure Made (d:District)(c:List Claim)(l:List Order):Prop where
 ask:Askd d c
 plan:∃ gs,PL d (aq c) gs∧l=srt aG (aq c++gs)
 lim:Lim d l
end
end Go.Sx
end
section
namespace Go.Sx
open Go.Proofs
set_option maxRecDepth 100000
set_option linter.unusedSimpArgs false
def aL (n:Int)(lo:Int)(hi:Int):Bool:=((decide (n≥lo))&&(decide (n≤hi)))
@[go_sem] def fV:List SV→Option Con:=(pI fun n=>(pI fun lo=>(pI fun hi=>(pE (.det True (.v (.bool (aL n lo hi))))))))
theorem gD:FnOk Tryz.prog 171 fV:=by
 have hG:ConsOk Tryz.prog (mkG [] []):=aC cg0 cg0
 refine aI [.o] mixed ax hG (fn:=Tryz.f171) (c:=ae Tryz.f171) (by kernel_rfl) (by kernel_rfl) (by kernel_rfl) (by kernel_rfl) (b8 fun n=>(b8 fun lo=>(b8 fun hi=>(aB (fun hp=>?_)))))
 dsimp only[aD]at hp
 refine⟨Nat.le_of_ble_eq_true rfl,L0,aj _,?_⟩
 ·unfold ae Tryz.f171
  try unfold aL
  simp only[go_sem,Nat.reduceBEq,Nat.reduceLeDiff,Nat.reduceLT,decide_true,Nat.reduceAdd,Nat.reduceSub,Nat.reduceMul,Int.reduceLE,Int.reduceLT,Int.reduceToNat,Int.reduceNeg,reduceCtorEq]
  all_goals exact cl
@[go_sem] def e_ (b:Int)(k_0:Nat)(s_0:Int×Int):Int⊕(Int×Int):=(bif(decide (s_0.2 > 0))then .inr (s_0.2,(Int.tmod s_0.1 s_0.2))else .inl s_0.1)
def jv (b:Int)(k_0:Nat)(s_0:Int×Int):Prop:=((decide (s_0.2 > 0))=true→s_0.2≠0)
def iV (a:Int)(b:Int):Int:=(match aw (e_ b) (Int.toNat b+1) 0 (a,b)with| .inl x_0_0=>x_0_0| .inr s_0=>default)
def je (a:Int)(b:Int):Prop:=(okI (e_ b) (jv b) (Int.toNat b+1) 0 (a,b)∧(∀ z_,aw (e_ b) (Int.toNat b+1) 0 (a,b)≠ .inr z_))
@[go_sem] def qb:List SV→Option Con:=(pI fun a=>(pI fun b=>(pE (.det (je a b) (.v (.int .i64 (iV a b)))))))
theorem vW:FnOk Tryz.prog 199 qb:=by
 have hG:ConsOk Tryz.prog (mkG [] []):=aC cg0 cg0
 refine aI [.o] mixed ax hG (fn:=Tryz.f199) (c:=ae Tryz.f199) (by kernel_rfl) (by kernel_rfl) (by kernel_rfl) (by kernel_rfl) (b8 fun a=>(b8 fun b=>(aB (fun hp=>?_))))
 dsimp only[aD]at hp
 unfold je at hp
 refine⟨Nat.le_of_ble_eq_true rfl,(fun id st=>bif Nat.beq id 0 then some (LCV (ρ:=Int) (σ:=(Int×Int)) 0 [] [] (fun k_0 s_0=>⟨[(0,.v (.int .i64 s_0.1)),(1,.v (.int .i64 s_0.2))],[]⟩) (e_ b) (jv b) (Int.toNat b+1) (a,b) (fun _=>.normal) (fun x_0_0=>⟨[(0,.v (.int .i64 x_0_0))],[]⟩) st)else none),?_,?_⟩
 ·unfold ae Tryz.f199
  simp only[az,true_and,and_true]
  ·refine jR mixed ax hG (by kernel_rfl) (fun _=>rfl) fun k_0 s_0 hq0=>⟨L0,aj _,?_⟩
   ·unfold jv at hq0
    exact Df
 ·unfold ae Tryz.f199
  try unfold iV
  simp only[go_sem,Nat.reduceBEq,Nat.reduceLeDiff,Nat.reduceLT,decide_true,Nat.reduceAdd,Nat.reduceSub,Nat.reduceMul,Int.reduceLE,Int.reduceLT,Int.reduceToNat,Int.reduceNeg,reduceCtorEq]
  all_goals exact cl
def kV (n:Int):Int:=(bif(decide (n<0))then(IntKind.i64.wrap (0 - n))else n)
@[go_sem] def uN:List SV→Option Con:=(pI fun n=>(pE (.det True (.v (.int .i64 (kV n))))))
theorem zW:FnOk Tryz.prog 200 uN:=by
 have hG:ConsOk Tryz.prog (mkG [] []):=aC cg0 cg0
 refine aI [.o] mixed ax hG (fn:=Tryz.f200) (c:=ae Tryz.f200) (by kernel_rfl) (by kernel_rfl) (by kernel_rfl) (by kernel_rfl) (b8 fun n=>(aB (fun hp=>?_)))
 dsimp only[aD]at hp
 refine⟨Nat.le_of_ble_eq_true rfl,L0,aj _,?_⟩
 ·unfold ae Tryz.f200
  try unfold kV
  simp only[go_sem,Nat.reduceBEq,Nat.reduceLeDiff,Nat.reduceLT,decide_true,Nat.reduceAdd,Nat.reduceSub,Nat.reduceMul,Int.reduceLE,Int.reduceLT,Int.reduceToNat,Int.reduceNeg,reduceCtorEq]
  all_goals exact cl
def dX (a:Ratio):Bool:=(((((decide (a.d≥1))&&(decide (a.d≤1073741824)))&&(decide (a.n≥(-1073741824))))&&(decide (a.n≤1073741824)))&&((iV (kV a.n) a.d) ==1))
def fG (a:Ratio):Prop:=(((((decide (a.d≥1))&&(decide (a.d≤1073741824)))&&(decide (a.n≥(-1073741824))))&&(decide (a.n≤1073741824)))=true→(je (kV a.n) a.d))
@[go_sem] def lz:List SV→Option Con:=(pD .ratio fun a=>(pE (.det (fG a) (.v (.bool (dX a))))))
theorem nQ:FnOk Tryz.prog 196 lz:=by
 have hG:ConsOk Tryz.prog (mkG [(199,qb),(200,uN)] []):=aC (cgc vW (cgc zW cg0)) cg0
 refine aI [.o] mixed ax hG (fn:=Tryz.f196) (c:=ae Tryz.f196) (by kernel_rfl) (by kernel_rfl) (by kernel_rfl) (by kernel_rfl) (aN fun a=>(aB (fun hp=>?_)))
 dsimp only[aD]at hp
 unfold fG at hp
 refine⟨Nat.le_of_ble_eq_true rfl,L0,aj _,?_⟩
 ·unfold ae Tryz.f196
  try unfold dX
  simp only[go_sem,Nat.reduceBEq,Nat.reduceLeDiff,Nat.reduceLT,decide_true,Nat.reduceAdd,Nat.reduceSub,Nat.reduceMul,Int.reduceLE,Int.reduceLT,Int.reduceToNat,Int.reduceNeg,reduceCtorEq]
  all_goals exact cl
def fC (a:Ratio):Int:=(bif(!(dX a))then 120 else 0)
def lA (a:Ratio):Prop:=(fG a)
@[go_sem] def sH:List SV→Option Con:=(pD .ratio fun a=>(pE (.det (lA a) (.v (.int .i64 (fC a))))))
theorem y9:FnOk Tryz.prog 194 sH:=by
 have hG:ConsOk Tryz.prog (mkG [(196,lz)] []):=aC (cgc nQ cg0) cg0
 refine aI [.o] mixed ax hG (fn:=Tryz.f194) (c:=ae Tryz.f194) (by kernel_rfl) (by kernel_rfl) (by kernel_rfl) (by kernel_rfl) (aN fun a=>(aB (fun hp=>?_)))
 dsimp only[aD]at hp
 unfold lA at hp
 refine⟨Nat.le_of_ble_eq_true rfl,L0,aj _,?_⟩
 ·unfold ae Tryz.f194
  try unfold fC
  simp only[go_sem,Nat.reduceBEq,Nat.reduceLeDiff,Nat.reduceLT,decide_true,Nat.reduceAdd,Nat.reduceSub,Nat.reduceMul,Int.reduceLE,Int.reduceLT,Int.reduceToNat,Int.reduceNeg,reduceCtorEq]
  all_goals exact cl
def gj (a:Ratio)(b:Ratio):Bool:=(decide ((IntKind.i64.wrap (a.n*b.d)) < (IntKind.i64.wrap (b.n*a.d))))
@[go_sem] def pG:List SV→Option Con:=(pD .ratio fun a=>(pD .ratio fun b=>(pE (.det True (.v (.bool (gj a b)))))))
theorem sI:FnOk Tryz.prog 192 pG:=by
 have hG:ConsOk Tryz.prog (mkG [] []):=aC cg0 cg0
 refine aI [.o] mixed ax hG (fn:=Tryz.f192) (c:=ae Tryz.f192) (by kernel_rfl) (by kernel_rfl) (by kernel_rfl) (by kernel_rfl) (aN fun a=>(aN fun b=>(aB (fun hp=>?_))))
 dsimp only[aD]at hp
 refine⟨Nat.le_of_ble_eq_true rfl,L0,aj _,?_⟩
 ·unfold ae Tryz.f192
  try unfold gj
  simp only[go_sem,Nat.reduceBEq,Nat.reduceLeDiff,Nat.reduceLT,decide_true,Nat.reduceAdd,Nat.reduceSub,Nat.reduceMul,Int.reduceLE,Int.reduceLT,Int.reduceToNat,Int.reduceNeg,reduceCtorEq]
  all_goals exact cl
def kW (a:Ratio)(b:Ratio):Bool:=((dX a)&&(dX b))
def mR (a:Ratio)(b:Ratio):Prop:=((fG a)∧((dX a)=true→(fG b)))
@[go_sem] def uO:List SV→Option Con:=(pD .ratio fun a=>(pD .ratio fun b=>(pE (.det (mR a b) (.v (.bool (kW a b)))))))
theorem zX:FnOk Tryz.prog 198 uO:=by
 have hG:ConsOk Tryz.prog (mkG [(196,lz)] []):=aC (cgc nQ cg0) cg0
 refine aI [.o] mixed ax hG (fn:=Tryz.f198) (c:=ae Tryz.f198) (by kernel_rfl) (by kernel_rfl) (by kernel_rfl) (by kernel_rfl) (aN fun a=>(aN fun b=>(aB (fun hp=>?_))))
 dsimp only[aD]at hp
 unfold mR at hp
 refine⟨Nat.le_of_ble_eq_true rfl,L0,aj _,?_⟩
 ·unfold ae Tryz.f198
  try unfold kW
  simp only[go_sem,Nat.reduceBEq,Nat.reduceLeDiff,Nat.reduceLT,decide_true,Nat.reduceAdd,Nat.reduceSub,Nat.reduceMul,Int.reduceLE,Int.reduceLT,Int.reduceToNat,Int.reduceNeg,reduceCtorEq]
  all_goals exact cl
def jF (a:Ratio)(b:Ratio):Int×Int:=(bif(!(kW a b))then(0,120)else(bif(gj a b)then((-1),0)else(bif(gj b a)then(1,0)else(0,0))))
def rv (a:Ratio)(b:Ratio):Prop:=(mR a b)
@[go_sem] def wy:List SV→Option Con:=(pD .ratio fun a=>(pD .ratio fun b=>(pE (.det (rv a b) (.tup [.v (.int .i64 ((jF a b).1)),.v (.int .i64 ((jF a b).2))])))))
theorem B_:FnOk Tryz.prog 195 wy:=by
 have hG:ConsOk Tryz.prog (mkG [(192,pG),(198,uO)] []):=aC (cgc sI (cgc zX cg0)) cg0
 refine aI [.o,.o] mixed ax hG (fn:=Tryz.f195) (c:=ae Tryz.f195) (by kernel_rfl) (by kernel_rfl) (by kernel_rfl) (by kernel_rfl) (aN fun a=>(aN fun b=>(aB (fun hp=>?_))))
 dsimp only[aD]at hp
 unfold rv at hp
 refine⟨Nat.le_of_ble_eq_true rfl,L0,aj _,?_⟩
 ·unfold ae Tryz.f195
  try unfold jF
  simp only[go_sem,Nat.reduceBEq,Nat.reduceLeDiff,Nat.reduceLT,decide_true,Nat.reduceAdd,Nat.reduceSub,Nat.reduceMul,Int.reduceLE,Int.reduceLT,Int.reduceToNat,Int.reduceNeg,reduceCtorEq]
  all_goals exact cl
def ed (x:Ratio×Ratio):Bool:=(bif(((fC x.1) !=0) ||((fC x.2) !=0))then false else(((decide (x.1.n≥0))&&(decide ((jF x.1 x.2).1≤0)))&&(decide (x.2.n≤x.2.d))))
def kc (x:Ratio×Ratio):Prop:=((lA x.1)∧((((fC x.1) !=0)=false→(lA x.2))∧((((fC x.1) !=0) ||((fC x.2) !=0))=false→(rv x.1 x.2))))
@[go_sem] def rz:List SV→Option Con:=(pD .ratio2 fun x=>(pE (.det (kc x) (.v (.bool (ed x))))))
theorem w5:FnOk Tryz.prog 189 rz:=by
 have hG:ConsOk Tryz.prog (mkG [(194,sH),(195,wy)] []):=aC (cgc y9 (cgc B_ cg0)) cg0
 refine aI [.o] mixed ax hG (fn:=Tryz.f189) (c:=ae Tryz.f189) (by kernel_rfl) (by kernel_rfl) (by kernel_rfl) (by kernel_rfl) (aN fun x=>(aB (fun hp=>?_)))
 dsimp only[aD]at hp
 unfold kc at hp
 refine⟨Nat.le_of_ble_eq_true rfl,L0,aj _,?_⟩
 ·unfold ae Tryz.f189
  try unfold ed
  simp only[go_sem,Nat.reduceBEq,Nat.reduceLeDiff,Nat.reduceLT,decide_true,Nat.reduceAdd,Nat.reduceSub,Nat.reduceMul,Int.reduceLE,Int.reduceLT,Int.reduceToNat,Int.reduceNeg,reduceCtorEq]
  all_goals exact cl
def mc (x:Reach):Bool:=(bif(((!(aL x.delay 1 16)) ||(!(aL x.cap 0 1073741824))) ||(!(aL x.bank 0 1099511627776)))then false else(bif(((!(aL x.siphon 0 (if x.bank<x.cap then x.bank else x.cap))) ||(!(aL x.evap.lo 0 x.evap.hi))) ||(decide (x.evap.hi > 1073741824)))then false else(ed x.seep)))
def lB (x:Reach):Prop:=((((!(aL x.delay 1 16)) ||(!(aL x.cap 0 1073741824))) ||(!(aL x.bank 0 1099511627776)))=false→((((!(aL x.siphon 0 (if x.bank<x.cap then x.bank else x.cap))) ||(!(aL x.evap.lo 0 x.evap.hi))) ||(decide (x.evap.hi > 1073741824)))=false→(kc x.seep)))
@[go_sem] def sJ:List SV→Option Con:=(pD .reach fun x=>(pE (.det (lB x) (.v (.bool (mc x))))))
theorem y_:FnOk Tryz.prog 183 sJ:=by
 have hG:ConsOk Tryz.prog (mkG [(171,fV),(189,rz)] []):=aC (cgc gD (cgc w5 cg0)) cg0
 refine aI [.o] mixed ax hG (fn:=Tryz.f183) (c:=ae Tryz.f183) (by kernel_rfl) (by kernel_rfl) (by kernel_rfl) (by kernel_rfl) (aN fun x=>(aB (fun hp=>?_)))
 dsimp only[aD]at hp
 unfold lB at hp
 refine⟨Nat.le_of_ble_eq_true rfl,L0,aj _,?_⟩
 ·unfold ae Tryz.f183
  try unfold mc
  simp only[go_sem,Nat.reduceBEq,Nat.reduceLeDiff,Nat.reduceLT,decide_true,Nat.reduceAdd,Nat.reduceSub,Nat.reduceMul,Int.reduceLE,Int.reduceLT,Int.reduceToNat,Int.reduceNeg,reduceCtorEq]
  all_goals exact cl
@[go_sem] def fa (l_:List Reach)(k_0:Nat)(s_0:Unit):Unit⊕Unit:=(bif((((k_0:Int) ==0)&&((l_.getD k_0 (default:Reach)).up !=(-1))) ||((decide ((k_0:Int) > 0))&&(!(aL ((l_.getD k_0 (default:Reach)).up) 0 (IntKind.i64.wrap ((k_0:Int) - 1))))))then .inl ()else(bif(!(mc (l_.getD k_0 (default:Reach))))then .inl ()else .inr ()))
def jw (l_:List Reach)(k_0:Nat)(s_0:Unit):Prop:=(l_.length≤ba→(((((k_0:Int) ==0)&&((l_.getD k_0 (default:Reach)).up !=(-1))) ||((decide ((k_0:Int) > 0))&&(!(aL ((l_.getD k_0 (default:Reach)).up) 0 (IntKind.i64.wrap ((k_0:Int) - 1))))))=false→(lB (l_.getD k_0 (default:Reach)))))
def iW (l_:List Reach):Bool:=(match aw (fa l_) l_.length 0 ()with| .inl x_0_0=>false| .inr s_0=>(decide ((l_.length:Int) > 0)))
def my (l_:List Reach):Prop:=okI (fa l_) (jw l_) l_.length 0 ()
@[go_sem] def qc:List SV→Option Con:=(pR .reach fun l_=>(pE (.det (my l_) (.v (.bool (iW l_))))))
theorem vX:FnOk Tryz.prog 172 qc:=by
 have hG:ConsOk Tryz.prog (mkG [(171,fV),(183,sJ)] []):=aC (cgc gD (cgc y_ cg0)) cg0
 refine aI [.o] mixed ax hG (fn:=Tryz.f172) (c:=ae Tryz.f172) (by kernel_rfl) (by kernel_rfl) (by kernel_rfl) (by kernel_rfl) (cg fun l_=>(aB (fun hp=>?_)))
 dsimp only[aD]at hp
 unfold my at hp
 refine⟨Nat.le_of_ble_eq_true rfl,(fun id st=>bif Nat.beq id 0 then some (LCR (ρ:=Unit) (σ:=Unit) 0 [] [] (fun k_0 s_0=>⟨[(0,.rs .reach l_),(3,.v (.int .i64 (k_0:Int)))],[]⟩) (fa l_) (jw l_) l_.length () (True) (fun _=>.ret) (fun x_0_0=>⟨[(2,.v (.bool false))],[]⟩) st)else none),?_,?_⟩
 ·unfold ae Tryz.f172
  simp only[az,true_and,and_true]
  ·refine d6 (l_.length≤ba) mixed ax hG (by kernel_rfl) (fun _=>rfl) (l_.length:Int) rfl g6 (fun hb0 k_0 s_0 hlt0 hq0 hw hc=>⟨L0,aj _,?_⟩) (fun hb0 s_0 hc=>?_) fun hb0 k_0 s_0=>?_
   ·unfold jw at hq0
    try simp only[hw,Int.toNat_natCast]at hq0
    exact l7
   ·exact l8
   ·simp only[go_sem,Nat.reduceBEq,Nat.reduceLeDiff,Nat.reduceLT,decide_true,Nat.reduceAdd,Nat.reduceSub,Nat.reduceMul,Int.reduceLE,Int.reduceLT,Int.reduceToNat,Int.reduceNeg,reduceCtorEq,hb0]
 ·unfold ae Tryz.f172
  try unfold iW
  simp only[go_sem,Nat.reduceBEq,Nat.reduceLeDiff,Nat.reduceLT,decide_true,Nat.reduceAdd,Nat.reduceSub,Nat.reduceMul,Int.reduceLE,Int.reduceLT,Int.reduceToNat,Int.reduceNeg,reduceCtorEq]
  all_goals exact cl
@[go_sem] def g9 (a0:District)(k_0:Nat)(s_0:Unit):Unit⊕Unit:=(bif(!(aL ((a0.crops.getD k_0 (default:Crop)).need) 0 1048576))then .inl ()else .inr ())
@[go_sem] def g_ (a0:District)(k_1:Nat)(s_1:Unit):Unit⊕Unit:=(bif((!(aL ((a0.farms.getD k_1 (default:Farm)).reach) 0 (IntKind.i64.wrap ((a0.reaches.length:Int) - 1)))) ||(!(aL ((a0.farms.getD k_1 (default:Farm)).area) 0 1048576)))then .inl ()else(bif((((a0.farms.getD k_1 (default:Farm)).area==0)&&((a0.farms.getD k_1 (default:Farm)).crop !=(-1))) ||((decide ((a0.farms.getD k_1 (default:Farm)).area > 0))&&(!(aL ((a0.farms.getD k_1 (default:Farm)).crop) 0 (IntKind.i64.wrap ((a0.crops.length:Int) - 1))))))then .inl ()else .inr ()))
def mf (a0:District):Bool:=(match aw (g9 a0) a0.crops.length 0 ()with| .inl x_0_0=>false| .inr s_0=>(match aw (g_ a0) a0.farms.length 0 ()with| .inl x_1_0=>false| .inr s_1=>true))
@[go_sem] def sK:List SV→Option Con:=(pD .district fun a0=>(pE (.det True (.v (.bool (mf a0))))))
theorem za:FnOk Tryz.prog 173 sK:=by
 have hG:ConsOk Tryz.prog (mkG [(171,fV)] []):=aC (cgc gD cg0) cg0
 refine aI [.o] mixed ax hG (fn:=Tryz.f173) (c:=ae Tryz.f173) (by kernel_rfl) (by kernel_rfl) (by kernel_rfl) (by kernel_rfl) (aN fun a0=>(aB (fun hp=>?_)))
 dsimp only[aD]at hp
 refine⟨Nat.le_of_ble_eq_true rfl,(fun id st=>bif Nat.beq id 0 then some (LCR (ρ:=Unit) (σ:=Unit) 1 [] [0] (fun k_0 s_0=>⟨[(1,.ptr 0 0),(3,.v (.int .i64 (k_0:Int)))],[.cells (cellsOf .district a0)]⟩) (g9 a0) pT a0.crops.length () (True) (fun _=>.ret) (fun x_0_0=>⟨[(2,.v (.bool false))],[.dead]⟩) st)else bif Nat.beq id 2 then some (LCR (ρ:=Unit) (σ:=Unit) 1 [] [0] (fun k_1 s_1=>⟨[(1,.ptr 0 0),(4,.v (.int .i64 (k_1:Int)))],[.cells (cellsOf .district a0)]⟩) (g_ a0) pT a0.farms.length () (True) (fun _=>.ret) (fun x_1_0=>⟨[(2,.v (.bool false))],[.dead]⟩) st)else none),?_,?_⟩
 ·unfold ae Tryz.f173
  simp only[az,true_and,and_true]
  refine⟨?_,?_⟩
  ·refine d6 (a0.crops.length≤ba) mixed ax hG (by kernel_rfl) (fun _=>rfl) (a0.crops.length:Int) rfl g6 (fun hb0 k_0 s_0 hlt0 _ hw hc=>⟨L0,aj _,?_⟩) (fun hb0 s_0 hc=>?_) fun hb0 k_0 s_0=>?_
   ·exact ff
   ·exact fg
   ·simp only[go_sem,Nat.reduceBEq,Nat.reduceLeDiff,Nat.reduceLT,decide_true,Nat.reduceAdd,Nat.reduceSub,Nat.reduceMul,Int.reduceLE,Int.reduceLT,Int.reduceToNat,Int.reduceNeg,reduceCtorEq,hb0]
  ·refine d6 (a0.farms.length≤ba) mixed ax hG (by kernel_rfl) (fun _=>rfl) (a0.farms.length:Int) rfl g6 (fun hb1 k_1 s_1 hlt1 _ hw hc=>⟨L0,aj _,?_⟩) (fun hb1 s_1 hc=>?_) fun hb1 k_1 s_1=>?_
   ·exact ff
   ·exact fg
   ·simp only[go_sem,Nat.reduceBEq,Nat.reduceLeDiff,Nat.reduceLT,decide_true,Nat.reduceAdd,Nat.reduceSub,Nat.reduceMul,Int.reduceLE,Int.reduceLT,Int.reduceToNat,Int.reduceNeg,reduceCtorEq,hb1]
 ·unfold ae Tryz.f173
  try unfold mf
  simp only[go_sem,Nat.reduceBEq,Nat.reduceLeDiff,Nat.reduceLT,decide_true,Nat.reduceAdd,Nat.reduceSub,Nat.reduceMul,Int.reduceLE,Int.reduceLT,Int.reduceToNat,Int.reduceNeg,reduceCtorEq]
  all_goals exact cl
def mg (a0:District)(a1:Right):Bool:=(bif((((!(aL a1.farm 0 (IntKind.i64.wrap ((a0.farms.length:Int) - 1)))) ||(!(aL a1.reach 0 (IntKind.i64.wrap ((a0.reaches.length:Int) - 1))))) ||(!(aL a1.since 0 a1.to))) ||(decide (a1.to≥a0.hours)))then false else(bif(a1.kind==1)then(((((a1.reach==0)&&(aL a1.rank 0 1048576))&&(aL a1.litres 1 1073741824))&&(aL a1.length 1 a1.every))&&(decide (a1.every≤a0.hours)))else(bif(a1.kind==2)then((((((a1.rank==0)&&(a1.litres==0))&&(a1.every==0))&&(a1.length==0))&&(a1.since==0))&&(a1.to==(IntKind.i64.wrap (a0.hours - 1))))else(bif(a1.kind==3)then((((a1.rank==0)&&(a1.litres==0))&&(a1.every==0))&&(a1.length==0))else false))))
@[go_sem] def sL:List SV→Option Con:=(pD .district fun a0=>(pD .right fun a1=>(pE (.det True (.v (.bool (mg a0 a1)))))))
theorem zb:FnOk Tryz.prog 174 sL:=by
 have hG:ConsOk Tryz.prog (mkG [(171,fV)] []):=aC (cgc gD cg0) cg0
 refine aI [.o] mixed ax hG (fn:=Tryz.f174) (c:=ae Tryz.f174) (by kernel_rfl) (by kernel_rfl) (by kernel_rfl) (by kernel_rfl) (aN fun a0=>(aN fun a1=>(aB (fun hp=>?_))))
 dsimp only[aD]at hp
 refine⟨Nat.le_of_ble_eq_true rfl,L0,aj _,?_⟩
 ·unfold ae Tryz.f174
  try unfold mg
  simp only[go_sem,Nat.reduceBEq,Nat.reduceLeDiff,Nat.reduceLT,decide_true,Nat.reduceAdd,Nat.reduceSub,Nat.reduceMul,Int.reduceLE,Int.reduceLT,Int.reduceToNat,Int.reduceNeg,reduceCtorEq]
  all_goals exact cl
@[go_sem] def hM (a0:District)(k_0:Nat)(s_0:Unit):Unit⊕Unit:=(bif(!(mg a0 (a0.rights.getD k_0 (default:Right))))then .inl ()else .inr ())
@[go_sem] def hU (a0:District)(k_1:Nat)(s_1:Unit):Unit⊕Unit:=(bif(((!(aL ((a0.duties.getD k_1 (default:Duty)).farm) 0 (IntKind.i64.wrap ((a0.farms.length:Int) - 1)))) ||(!(aL ((a0.duties.getD k_1 (default:Duty)).reach) 0 (IntKind.i64.wrap ((a0.reaches.length:Int) - 1))))) ||(!(aL ((a0.duties.getD k_1 (default:Duty)).due) 0 a0.hours)))then .inl ()else .inr ())
def jG (a0:District):Bool:=(bif(((!(aL a0.hours 1 4096)) ||(!(aL a0.tank.start 0 a0.tank.cap))) ||(decide (a0.tank.cap > 1099511627776)))then false else(bif((!(iW a0.reaches)) ||(!(mf a0)))then false else(match aw (hM a0) a0.rights.length 0 ()with| .inl x_0_0=>false| .inr s_0=>(match aw (hU a0) a0.duties.length 0 ()with| .inl x_1_0=>false| .inr s_1=>true))))
def lC (a0:District):Prop:=((((!(aL a0.hours 1 4096)) ||(!(aL a0.tank.start 0 a0.tank.cap))) ||(decide (a0.tank.cap > 1099511627776)))=false→(my a0.reaches))
@[go_sem] def sM:List SV→Option Con:=(pD .district fun a0=>(pE (.det (lC a0) (.v (.bool (jG a0))))))
theorem zc:FnOk Tryz.prog 148 sM:=by
 have hG:ConsOk Tryz.prog (mkG [(171,fV),(172,fun l=>qc (ci [.sl .reach] l)),(173,fun l=>sK (ci [.st .district] l)),(174,fun l=>sL (ci [.st .district,.st .right] l))] []):=aC (cgc gD (cgc (vX.norm [.sl .reach]) (cgc (za.norm [.st .district]) (cgc (zb.norm [.st .district,.st .right]) cg0)))) cg0
 refine aI [.o] mixed ax hG (fn:=Tryz.f148) (c:=ae Tryz.f148) (by kernel_rfl) (by kernel_rfl) (by kernel_rfl) (by kernel_rfl) (aN fun a0=>(aB (fun hp=>?_)))
 dsimp only[aD]at hp
 unfold lC at hp
 refine⟨Nat.le_of_ble_eq_true rfl,(fun id st=>bif Nat.beq id 0 then some (LCR (ρ:=Unit) (σ:=Unit) 1 [] [0] (fun k_0 s_0=>⟨[(1,.ptr 0 0),(3,.v (.int .i64 (k_0:Int)))],[.cells (cellsOf .district a0)]⟩) (hM a0) pT a0.rights.length () (True) (fun _=>.ret) (fun x_0_0=>⟨[(2,.v (.bool false))],[.dead]⟩) st)else bif Nat.beq id 2 then some (LCR (ρ:=Unit) (σ:=Unit) 1 [] [0] (fun k_1 s_1=>⟨[(1,.ptr 0 0),(4,.v (.int .i64 (k_1:Int)))],[.cells (cellsOf .district a0)]⟩) (hU a0) pT a0.duties.length () (True) (fun _=>.ret) (fun x_1_0=>⟨[(2,.v (.bool false))],[.dead]⟩) st)else none),?_,?_⟩
 ·unfold ae Tryz.f148
  simp only[az,true_and,and_true]
  refine⟨?_,?_⟩
  ·refine d6 (a0.rights.length≤ba) mixed ax hG (by kernel_rfl) (fun _=>rfl) (a0.rights.length:Int) rfl g6 (fun hb0 k_0 s_0 hlt0 _ hw hc=>⟨L0,aj _,?_⟩) (fun hb0 s_0 hc=>?_) fun hb0 k_0 s_0=>?_
   ·exact ff
   ·exact fg
   ·simp only[go_sem,Nat.reduceBEq,Nat.reduceLeDiff,Nat.reduceLT,decide_true,Nat.reduceAdd,Nat.reduceSub,Nat.reduceMul,Int.reduceLE,Int.reduceLT,Int.reduceToNat,Int.reduceNeg,reduceCtorEq,hb0]
  ·refine d6 (a0.duties.length≤ba) mixed ax hG (by kernel_rfl) (fun _=>rfl) (a0.duties.length:Int) rfl g6 (fun hb1 k_1 s_1 hlt1 _ hw hc=>⟨L0,aj _,?_⟩) (fun hb1 s_1 hc=>?_) fun hb1 k_1 s_1=>?_
   ·exact ff
   ·exact fg
   ·simp only[go_sem,Nat.reduceBEq,Nat.reduceLeDiff,Nat.reduceLT,decide_true,Nat.reduceAdd,Nat.reduceSub,Nat.reduceMul,Int.reduceLE,Int.reduceLT,Int.reduceToNat,Int.reduceNeg,reduceCtorEq,hb1]
 ·unfold ae Tryz.f148
  try unfold jG
  simp only[go_sem,Nat.reduceBEq,Nat.reduceLeDiff,Nat.reduceLT,decide_true,Nat.reduceAdd,Nat.reduceSub,Nat.reduceMul,Int.reduceLE,Int.reduceLT,Int.reduceToNat,Int.reduceNeg,reduceCtorEq]
  all_goals exact cl
def dJ (d:District):Int:=(bif(((((decide ((d.reaches.length:Int) > 64)) ||(decide ((d.farms.length:Int) > 600))) ||(decide ((d.crops.length:Int) > 32))) ||(decide ((d.rights.length:Int) > 256))) ||(decide ((d.duties.length:Int) > 256)))then 2 else(bif(!(jG d))then 191 else 0))
def iX (d:District):Prop:=(d.reaches.length≤ba→((((((decide ((d.reaches.length:Int) > 64)) ||(decide ((d.farms.length:Int) > 600))) ||(decide ((d.crops.length:Int) > 32))) ||(decide ((d.rights.length:Int) > 256))) ||(decide ((d.duties.length:Int) > 256)))=false→(lC d)))
@[go_sem] def oA:List SV→Option Con:=(pD .district fun d=>(pE (.det (iX d) (.v (.int .i64 (dJ d))))))
theorem rA:FnOk Tryz.prog 114 oA:=by
 have hG:ConsOk Tryz.prog (mkG [(148,fun l=>sM (ci [.st .district] l))] []):=aC (cgc (zc.norm [.st .district]) cg0) cg0
 refine aI [.o] mixed ax hG (fn:=Tryz.f114) (c:=ae Tryz.f114) (by kernel_rfl) (by kernel_rfl) (by kernel_rfl) (by kernel_rfl) (aN fun d=>(aB (fun hp=>?_)))
 dsimp only[aD]at hp
 unfold iX at hp
 refine⟨Nat.le_of_ble_eq_true rfl,L0,aj _,?_⟩
 ·unfold ae Tryz.f114
  try unfold dJ
  simp only[go_sem,Nat.reduceBEq,Nat.reduceLeDiff,Nat.reduceLT,decide_true,Nat.reduceAdd,Nat.reduceSub,Nat.reduceMul,Int.reduceLE,Int.reduceLT,Int.reduceToNat,Int.reduceNeg,reduceCtorEq]
  all_goals exact cl
end Go.Sx
end
section
namespace Go.Sx
open Go.Proofs
set_option maxRecDepth 100000
set_option linter.unusedSimpArgs false
theorem DQ {p:Prop}(h:p:=by simp only[go_sem,Nat.reduceBEq,Nat.reduceLeDiff,Nat.reduceLT,decide_true,Nat.reduceAdd,Nat.reduceSub,Nat.reduceMul,Int.reduceLE,Int.reduceLT,Int.reduceToNat,Int.reduceNeg,reduceCtorEq];all_goals exact jT):p:=h
def ke (x:Range)(most:Int):Bool:=(((decide (x.lo≥0))&&(decide (x.lo≤x.hi)))&&(decide (x.hi≤most)))
@[go_sem] def rB:List SV→Option Con:=(pD .range fun x=>(pI fun most=>(pE (.det True (.v (.bool (ke x most)))))))
theorem w6:FnOk Tryz.prog 186 rB:=by
 have hG:ConsOk Tryz.prog (mkG [] []):=aC cg0 cg0
 refine aI [.o] mixed ax hG (fn:=Tryz.f186) (c:=ae Tryz.f186) (by kernel_rfl) (by kernel_rfl) (by kernel_rfl) (by kernel_rfl) (aN fun x=>(b8 fun most=>(aB (fun hp=>?_))))
 dsimp only[aD]at hp
 refine⟨Nat.le_of_ble_eq_true rfl,L0,aj _,?_⟩
 ·unfold ae Tryz.f186
  try unfold ke
  simp only[go_sem,Nat.reduceBEq,Nat.reduceLeDiff,Nat.reduceLT,decide_true,Nat.reduceAdd,Nat.reduceSub,Nat.reduceMul,Int.reduceLE,Int.reduceLT,Int.reduceToNat,Int.reduceNeg,reduceCtorEq]
  all_goals exact cl
def f7 (a:Ratio):Bool:=(((dX a)&&(decide (a.n≥0)))&&(decide (a.n≤a.d)))
def lD (a:Ratio):Prop:=(fG a)
@[go_sem] def sN:List SV→Option Con:=(pD .ratio fun a=>(pE (.det (lD a) (.v (.bool (f7 a))))))
theorem zd:FnOk Tryz.prog 191 sN:=by
 have hG:ConsOk Tryz.prog (mkG [(196,lz)] []):=aC (cgc nQ cg0) cg0
 refine aI [.o] mixed ax hG (fn:=Tryz.f191) (c:=ae Tryz.f191) (by kernel_rfl) (by kernel_rfl) (by kernel_rfl) (by kernel_rfl) (aN fun a=>(aB (fun hp=>?_)))
 dsimp only[aD]at hp
 unfold lD at hp
 refine⟨Nat.le_of_ble_eq_true rfl,L0,aj _,?_⟩
 ·unfold ae Tryz.f191
  try unfold f7
  simp only[go_sem,Nat.reduceBEq,Nat.reduceLeDiff,Nat.reduceLT,decide_true,Nat.reduceAdd,Nat.reduceSub,Nat.reduceMul,Int.reduceLE,Int.reduceLT,Int.reduceToNat,Int.reduceNeg,reduceCtorEq]
  all_goals exact cl
def gk (a:Ratio×Ratio):Bool:=(((f7 a.1)&&(f7 a.2))&&(!(gj a.2 a.1)))
def nR (a:Ratio×Ratio):Prop:=((lD a.1)∧((f7 a.1)=true→(lD a.2)))
@[go_sem] def rC:List SV→Option Con:=(pD .ratio2 fun a=>(pE (.det (nR a) (.v (.bool (gk a))))))
theorem w7:FnOk Tryz.prog 187 rC:=by
 have hG:ConsOk Tryz.prog (mkG [(191,sN),(192,pG)] []):=aC (cgc zd (cgc sI cg0)) cg0
 refine aI [.o] mixed ax hG (fn:=Tryz.f187) (c:=ae Tryz.f187) (by kernel_rfl) (by kernel_rfl) (by kernel_rfl) (by kernel_rfl) (aN fun a=>(aB (fun hp=>?_)))
 dsimp only[aD]at hp
 unfold nR at hp
 refine⟨Nat.le_of_ble_eq_true rfl,L0,aj _,?_⟩
 ·unfold ae Tryz.f187
  try unfold gk
  simp only[go_sem,Nat.reduceBEq,Nat.reduceLeDiff,Nat.reduceLT,decide_true,Nat.reduceAdd,Nat.reduceSub,Nat.reduceMul,Int.reduceLE,Int.reduceLT,Int.reduceToNat,Int.reduceNeg,reduceCtorEq]
  all_goals exact cl
def f8 (r:Reach):Bool:=((ke r.evap 1073741824)&&(gk r.seep))
def lE (r:Reach):Prop:=((ke r.evap 1073741824)=true→(nR r.seep))
@[go_sem] def sO:List SV→Option Con:=(pD .reach fun r=>(pE (.det (lE r) (.v (.bool (f8 r))))))
theorem zf:FnOk Tryz.prog 180 sO:=by
 have hG:ConsOk Tryz.prog (mkG [(186,rB),(187,rC)] []):=aC (cgc w6 (cgc w7 cg0)) cg0
 refine aI [.o] mixed ax hG (fn:=Tryz.f180) (c:=ae Tryz.f180) (by kernel_rfl) (by kernel_rfl) (by kernel_rfl) (by kernel_rfl) (aN fun r=>(aB (fun hp=>?_)))
 dsimp only[aD]at hp
 unfold lE at hp
 refine⟨Nat.le_of_ble_eq_true rfl,L0,aj _,?_⟩
 ·unfold ae Tryz.f180
  try unfold f8
  simp only[go_sem,Nat.reduceBEq,Nat.reduceLeDiff,Nat.reduceLT,decide_true,Nat.reduceAdd,Nat.reduceSub,Nat.reduceMul,Int.reduceLE,Int.reduceLT,Int.reduceToNat,Int.reduceNeg,reduceCtorEq]
  all_goals exact cl
def nS (a:Int)(b:Int):Int:=(IntKind.i64.wrap (Int.tdiv (IntKind.i64.wrap ((IntKind.i64.wrap (a+b)) - 1)) b))
def pH (a:Int)(b:Int):Prop:=b≠0
@[go_sem] def zg:List SV→Option Con:=(pI fun a=>(pI fun b=>(pE (.det (pH a b) (.v (.int .i64 (nS a b)))))))
theorem DR:FnOk Tryz.prog 197 zg:=by
 have hG:ConsOk Tryz.prog (mkG [] []):=aC cg0 cg0
 refine aI [.o] mixed ax hG (fn:=Tryz.f197) (c:=ae Tryz.f197) (by kernel_rfl) (by kernel_rfl) (by kernel_rfl) (by kernel_rfl) (b8 fun a=>(b8 fun b=>(aB (fun hp=>?_))))
 dsimp only[aD]at hp
 unfold pH at hp
 refine⟨Nat.le_of_ble_eq_true rfl,L0,aj _,?_⟩
 ·unfold ae Tryz.f197
  try unfold nS
  simp only[go_sem,Nat.reduceBEq,Nat.reduceLeDiff,Nat.reduceLT,decide_true,Nat.reduceAdd,Nat.reduceSub,Nat.reduceMul,Int.reduceLE,Int.reduceLT,Int.reduceToNat,Int.reduceNeg,reduceCtorEq]
  all_goals exact cl
def kX (r:Reach)(v:Int):Range:=(bif(v==0)then({ lo:=0,hi:=0}:Range)else({ lo:=(if(IntKind.i64.wrap (r.evap.lo+(IntKind.i64.wrap (Int.tdiv (IntKind.i64.wrap (v*r.seep.1.n)) r.seep.1.d)))) <v then(IntKind.i64.wrap (r.evap.lo+(IntKind.i64.wrap (Int.tdiv (IntKind.i64.wrap (v*r.seep.1.n)) r.seep.1.d))))else v),hi:=(if(IntKind.i64.wrap (r.evap.hi+(nS (IntKind.i64.wrap (v*r.seep.2.n)) r.seep.2.d))) <v then(IntKind.i64.wrap (r.evap.hi+(nS (IntKind.i64.wrap (v*r.seep.2.n)) r.seep.2.d)))else v)}:Range))
def mS (r:Reach)(v:Int):Prop:=((v==0)=false→(r.seep.1.d≠0∧(pH (IntKind.i64.wrap (v*r.seep.2.n)) r.seep.2.d)))
@[go_sem] def uP:List SV→Option Con:=(pD .reach fun r=>(pI fun v=>(pE (.det (mS r v) (.agg (cellsOf .range (kX r v)))))))
theorem zY:FnOk Tryz.prog 193 uP:=by
 have hG:ConsOk Tryz.prog (mkG [(197,zg)] []):=aC (cgc DR cg0) cg0
 refine aI [.st .range] mixed ax hG (fn:=Tryz.f193) (c:=ae Tryz.f193) (by kernel_rfl) (by kernel_rfl) (by kernel_rfl) (by kernel_rfl) (aN fun r=>(b8 fun v=>(aB (fun hp=>?_))))
 dsimp only[aD]at hp
 unfold mS at hp
 refine⟨Nat.le_of_ble_eq_true rfl,L0,aj _,?_⟩
 ·unfold ae Tryz.f193
  try unfold kX
  simp only[go_sem,Nat.reduceBEq,Nat.reduceLeDiff,Nat.reduceLT,decide_true,Nat.reduceAdd,Nat.reduceSub,Nat.reduceMul,Int.reduceLE,Int.reduceLT,Int.reduceToNat,Int.reduceNeg,reduceCtorEq]
  all_goals exact cl
def cP (r:Reach)(v:Int)(best:Bool):Int:=(bif best then(IntKind.i64.wrap (v - (kX r v).lo))else(IntKind.i64.wrap (v - (kX r v).hi)))
def jf (r:Reach)(v:Int)(best:Bool):Prop:=(mS r v)
@[go_sem] def qd:List SV→Option Con:=(pD .reach fun r=>(pI fun v=>(pB fun best=>(pE (.det (jf r v best) (.v (.int .i64 (cP r v best))))))))
theorem vY:FnOk Tryz.prog 188 qd:=by
 have hG:ConsOk Tryz.prog (mkG [(193,uP)] []):=aC (cgc zY cg0) cg0
 refine aI [.o] mixed ax hG (fn:=Tryz.f188) (c:=ae Tryz.f188) (by kernel_rfl) (by kernel_rfl) (by kernel_rfl) (by kernel_rfl) (aN fun r=>(b8 fun v=>(BT fun best=>(aB (fun hp=>?_)))))
 dsimp only[aD]at hp
 unfold jf at hp
 refine⟨Nat.le_of_ble_eq_true rfl,L0,aj _,?_⟩
 ·unfold ae Tryz.f188
  try unfold cP
  simp only[go_sem,Nat.reduceBEq,Nat.reduceLeDiff,Nat.reduceLT,decide_true,Nat.reduceAdd,Nat.reduceSub,Nat.reduceMul,Int.reduceLE,Int.reduceLT,Int.reduceToNat,Int.reduceNeg,reduceCtorEq]
  all_goals exact cl
@[go_sem] def cp (r:Reach)(w:Int)(best:Bool)(k_0:Nat)(s_0:Int×Int):Int⊕(Int×Int):=(bif(decide (s_0.2<s_0.1))then(bif(decide ((cP r (IntKind.i64.wrap (Int.tdiv (IntKind.i64.wrap (s_0.2+s_0.1)) 2)) best)≥w))then .inr ((IntKind.i64.wrap (Int.tdiv (IntKind.i64.wrap (s_0.2+s_0.1)) 2)),s_0.2)else .inr (s_0.1,(IntKind.i64.wrap ((IntKind.i64.wrap (Int.tdiv (IntKind.i64.wrap (s_0.2+s_0.1)) 2))+1))))else .inl s_0.2)
def kY (r:Reach)(w:Int)(best:Bool)(k_0:Nat)(s_0:Int×Int):Prop:=((decide (s_0.2<s_0.1))=true→(jf r (IntKind.i64.wrap (Int.tdiv (IntKind.i64.wrap (s_0.2+s_0.1)) 2)) best))
def eU (r:Reach)(w:Int)(best:Bool):Int:=(bif(decide ((cP r 1073741824 best) <w))then(-1)else(match aw (cp r w best) 64 0 (1073741824,0)with| .inl x_0_0=>x_0_0| .inr s_0=>default))
def lF (r:Reach)(w:Int)(best:Bool):Prop:=((jf r 1073741824 best)∧((decide ((cP r 1073741824 best) <w))=false→(okI (cp r w best) (kY r w best) 64 0 (1073741824,0)∧(∀ z_,aw (cp r w best) 64 0 (1073741824,0)≠ .inr z_))))
@[go_sem] def sP:List SV→Option Con:=(pD .reach fun r=>(pI fun w=>(pB fun best=>(pE (.det (lF r w best) (.v (.int .i64 (eU r w best))))))))
theorem zh:FnOk Tryz.prog 181 sP:=by
 have hG:ConsOk Tryz.prog (mkG [(188,qd)] []):=aC (cgc vY cg0) cg0
 refine aI [.o] mixed ax hG (fn:=Tryz.f181) (c:=ae Tryz.f181) (by kernel_rfl) (by kernel_rfl) (by kernel_rfl) (by kernel_rfl) (aN fun r=>(b8 fun w=>(BT fun best=>(aB (fun hp=>?_)))))
 dsimp only[aD]at hp
 unfold lF at hp
 refine⟨Nat.le_of_ble_eq_true rfl,(fun id st=>bif Nat.beq id 0 then some (LCV (ρ:=Int) (σ:=(Int×Int)) 1 [] [0] (fun k_0 s_0=>⟨[(1,.v (.int .i64 w)),(2,.v (.bool best)),(3,.ptr 0 0),(7,.v (.int .i64 s_0.2)),(8,.v (.int .i64 s_0.1))],[.cells (cellsOf .reach r)]⟩) (cp r w best) (kY r w best) 64 (1073741824,0) (fun _=>.normal) (fun x_0_0=>⟨[(7,.v (.int .i64 x_0_0))],[.dead]⟩) st)else none),?_,?_⟩
 ·unfold ae Tryz.f181
  simp only[az,true_and,and_true]
  ·refine jR mixed ax hG (by kernel_rfl) (fun _=>rfl) fun k_0 s_0 hq0=>⟨L0,aj _,?_⟩
   ·unfold kY at hq0
    exact DQ
 ·unfold ae Tryz.f181
  try unfold eU
  simp only[go_sem,Nat.reduceBEq,Nat.reduceLeDiff,Nat.reduceLT,decide_true,Nat.reduceAdd,Nat.reduceSub,Nat.reduceMul,Int.reduceLE,Int.reduceLT,Int.reduceToNat,Int.reduceNeg,reduceCtorEq]
  all_goals exact cl
def hY (r:Reach)(w:Int)(best:Bool):Int×Bool×Int:=(bif(!(f8 r))then(0,false,210)else(bif((decide (w<0)) ||(decide (w > 1073741824)))then(0,false,1)else(bif(decide ((eU r w best) <0))then(0,false,0)else((eU r w best),true,0))))
def pJ (r:Reach)(w:Int)(best:Bool):Prop:=((lE r)∧((!(f8 r))=false→(((decide (w<0)) ||(decide (w > 1073741824)))=false→(lF r w best))))
@[go_sem] def uQ:List SV→Option Con:=(pD .reach fun r=>(pI fun w=>(pB fun best=>(pE (.det (pJ r w best) (.tup [.v (.int .i64 ((hY r w best).1)),.v (.bool ((hY r w best).2.1)),.v (.int .i64 ((hY r w best).2.2))]))))))
theorem zZ:FnOk Tryz.prog 165 uQ:=by
 have hG:ConsOk Tryz.prog (mkG [(180,sO),(181,sP)] []):=aC (cgc zf (cgc zh cg0)) cg0
 refine aI [.o,.o,.o] mixed ax hG (fn:=Tryz.f165) (c:=ae Tryz.f165) (by kernel_rfl) (by kernel_rfl) (by kernel_rfl) (by kernel_rfl) (aN fun r=>(b8 fun w=>(BT fun best=>(aB (fun hp=>?_)))))
 dsimp only[aD]at hp
 unfold pJ at hp
 refine⟨Nat.le_of_ble_eq_true rfl,L0,aj _,?_⟩
 ·unfold ae Tryz.f165
  try unfold hY
  simp only[go_sem,Nat.reduceBEq,Nat.reduceLeDiff,Nat.reduceLT,decide_true,Nat.reduceAdd,Nat.reduceSub,Nat.reduceMul,Int.reduceLE,Int.reduceLT,Int.reduceToNat,Int.reduceNeg,reduceCtorEq]
  all_goals exact cl
def dT (r:Reach)(w:Int):Int×Bool×Int:=((hY r w false).1,(hY r w false).2.1,(hY r w false).2.2)
def kf (r:Reach)(w:Int):Prop:=(pJ r w false)
@[go_sem] def pK:List SV→Option Con:=(pD .reach fun r=>(pI fun w=>(pE (.det (kf r w) (.tup [.v (.int .i64 ((dT r w).1)),.v (.bool ((dT r w).2.1)),.v (.int .i64 ((dT r w).2.2))])))))
theorem sQ:FnOk Tryz.prog 137 pK:=by
 have hG:ConsOk Tryz.prog (mkG [(165,uQ)] []):=aC (cgc zZ cg0) cg0
 refine aI [.o,.o,.o] mixed ax hG (fn:=Tryz.f137) (c:=ae Tryz.f137) (by kernel_rfl) (by kernel_rfl) (by kernel_rfl) (by kernel_rfl) (aN fun r=>(b8 fun w=>(aB (fun hp=>?_))))
 dsimp only[aD]at hp
 unfold kf at hp
 refine⟨Nat.le_of_ble_eq_true rfl,L0,aj _,?_⟩
 ·unfold ae Tryz.f137
  try unfold dT
  simp only[go_sem,Nat.reduceBEq,Nat.reduceLeDiff,Nat.reduceLT,decide_true,Nat.reduceAdd,Nat.reduceSub,Nat.reduceMul,Int.reduceLE,Int.reduceLT,Int.reduceToNat,Int.reduceNeg,reduceCtorEq]
  all_goals exact cl
def bY (x:Reach)(w:Int):Int×Bool:=(bif(w==0)then(0,true)else(bif(decide (w > 1073741824))then(0,false)else(bif(!(dT x w).2.1)then(0,false)else((if(dT x w).1<x.siphon then x.siphon else(dT x w).1),true))))
def kg (x:Reach)(w:Int):Prop:=((w==0)=false→((decide (w > 1073741824))=false→(kf x w)))
@[go_sem] def rD:List SV→Option Con:=(pD .reach fun x=>(pI fun w=>(pE (.det (kg x w) (.tup [.v (.int .i64 ((bY x w).1)),.v (.bool ((bY x w).2))])))))
theorem w8:FnOk Tryz.prog 136 rD:=by
 have hG:ConsOk Tryz.prog (mkG [(137,pK)] []):=aC (cgc sQ cg0) cg0
 refine aI [.o,.o] mixed ax hG (fn:=Tryz.f136) (c:=ae Tryz.f136) (by kernel_rfl) (by kernel_rfl) (by kernel_rfl) (by kernel_rfl) (aN fun x=>(b8 fun w=>(aB (fun hp=>?_))))
 dsimp only[aD]at hp
 unfold kg at hp
 refine⟨Nat.le_of_ble_eq_true rfl,L0,aj _,?_⟩
 ·unfold ae Tryz.f136
  try unfold bY
  simp only[go_sem,Nat.reduceBEq,Nat.reduceLeDiff,Nat.reduceLT,decide_true,Nat.reduceAdd,Nat.reduceSub,Nat.reduceMul,Int.reduceLE,Int.reduceLT,Int.reduceToNat,Int.reduceNeg,reduceCtorEq]
  all_goals exact cl
end Go.Sx
end
section
namespace Go.Sx
@[go_sem ↓] theorem Sn (x:Reach):mkE .reach [.v (.string x.name),.v (.int .i64 x.up),.v (.int .i64 x.delay),.v (.int .i64 x.cap),.v (.int .i64 x.bank),.v (.int .i64 x.siphon),.v (.int .i64 x.evap.lo),.v (.int .i64 x.evap.hi),.v (.int .i64 x.seep.1.n),.v (.int .i64 x.seep.1.d),.v (.int .i64 x.seep.2.n),.v (.int .i64 x.seep.2.d)]=x:=(rfl)
@[go_sem ↓] theorem So (x:Order):mkE .order [.v (.int .i64 x.hour),.v (.int .i64 x.index),.v (.int .i64 x.litres),.v (.bool x.outlet)]=x:=(rfl)
@[go_sem ↓] theorem Sp (x:Claim):mkE .claim [.v (.int .i64 x.right),.v (.int .i64 x.farm),.v (.int .i64 x.hour),.v (.int .i64 x.litres),.v (.int .i64 x.rank)]=x:=(rfl)
@[go_sem ↓] theorem T_ (x:Tank):mkE .tank [.v (.int .i64 x.cap),.v (.int .i64 x.start)]=x:=(rfl)
end Go.Sx
end
section
namespace Go.Sx
open Go.Proofs
set_option maxRecDepth 100000
set_option linter.unusedSimpArgs false
theorem DS {p:Prop}(h:p:=by(first|done|(repeat' (first|with_reducible refine And.intro ?_ ?_|((with_reducible show _≠_);first|assumption|omega|(simp_all [aZ,bg];done) |grind) |with_reducible intro _)) <;>(first|done|exact Empty.elim ‹Empty› |assumption|rfl|omega|decide|exact fk [0,1] |exact czl|(simp only[*,cond_true,cond_false,Bool.not_true,Bool.not_false,go_sem,Nat.reduceBEq,Nat.reduceLeDiff,Nat.reduceLT,decide_true,Nat.reduceAdd,Nat.reduceSub,Nat.reduceMul,Int.reduceLE,Int.reduceLT,Int.reduceToNat,Int.reduceNeg,reduceCtorEq];(repeat' (first|with_reducible refine And.intro ?_ ?_|((with_reducible show _≠_);first|assumption|omega|(simp_all [aZ,bg];done) |grind) |with_reducible intro _)) <;>(first|done|assumption|rfl|omega|decide|exact fk [0,1] |(simp_all [aZ,bg];done))) |(simp_all [okI,aZ,bg];done) |(simp_all [aZ,bg];(first|done|exact fk2 [0,1])) |exact fk2 [0,1]))):p:=h
theorem rE {p:Prop}(h:p:=by(first|done|(repeat' (first|with_reducible refine And.intro ?_ ?_|((with_reducible show _≠_);first|assumption|omega|(simp_all [aZ,bg];done) |grind) |with_reducible intro _)) <;>(first|done|exact Empty.elim ‹Empty› |assumption|rfl|omega|decide|exact fk [0,1,4] |exact fk [0,1,2] |exact czl|(simp only[*,cond_true,cond_false,Bool.not_true,Bool.not_false,go_sem,Nat.reduceBEq,Nat.reduceLeDiff,Nat.reduceLT,decide_true,Nat.reduceAdd,Nat.reduceSub,Nat.reduceMul,Int.reduceLE,Int.reduceLT,Int.reduceToNat,Int.reduceNeg,reduceCtorEq];(repeat' (first|with_reducible refine And.intro ?_ ?_|((with_reducible show _≠_);first|assumption|omega|(simp_all [aZ,bg];done) |grind) |with_reducible intro _)) <;>(first|done|assumption|rfl|omega|decide|exact fk [0,1,4] |exact fk [0,1,2] |(simp_all [aZ,bg];done))) |(simp_all [okI,aZ,bg];done) |(simp_all [aZ,bg];(first|done|exact fk2 [0,1,4] |exact fk2 [0,1,2])) |exact fk2 [0,1,4] |exact fk2 [0,1,2]))):p:=h
theorem DT {p:Prop}(h:p:=by(first|done|(repeat' (first|with_reducible refine And.intro ?_ ?_|((with_reducible show _≠_);first|assumption|omega|(simp_all [aZ,bg];done) |grind) |with_reducible intro _)) <;>(first|done|exact Empty.elim ‹Empty› |assumption|rfl|omega|decide|exact fk [0,1,3] |exact fk [0,1,2] |exact czl|(simp only[*,cond_true,cond_false,Bool.not_true,Bool.not_false,go_sem,Nat.reduceBEq,Nat.reduceLeDiff,Nat.reduceLT,decide_true,Nat.reduceAdd,Nat.reduceSub,Nat.reduceMul,Int.reduceLE,Int.reduceLT,Int.reduceToNat,Int.reduceNeg,reduceCtorEq];(repeat' (first|with_reducible refine And.intro ?_ ?_|((with_reducible show _≠_);first|assumption|omega|(simp_all [aZ,bg];done) |grind) |with_reducible intro _)) <;>(first|done|assumption|rfl|omega|decide|exact fk [0,1,3] |exact fk [0,1,2] |(simp_all [aZ,bg];done))) |(simp_all [okI,aZ,bg];done) |(simp_all [aZ,bg];(first|done|exact fk2 [0,1,3] |exact fk2 [0,1,2])) |exact fk2 [0,1,3] |exact fk2 [0,1,2]))):p:=h
theorem DU {p:Prop}(h:p:=by(first|done|(repeat' (first|with_reducible refine And.intro ?_ ?_|((with_reducible show _≠_);first|assumption|omega|(simp_all [aZ,bg];done) |grind) |with_reducible intro _)) <;>(first|done|exact Empty.elim ‹Empty› |assumption|rfl|omega|decide|exact fk [0,1,2,4] |exact fk [0,1,2,3] |exact czl|(simp only[*,cond_true,cond_false,Bool.not_true,Bool.not_false,go_sem,Nat.reduceBEq,Nat.reduceLeDiff,Nat.reduceLT,decide_true,Nat.reduceAdd,Nat.reduceSub,Nat.reduceMul,Int.reduceLE,Int.reduceLT,Int.reduceToNat,Int.reduceNeg,reduceCtorEq];(repeat' (first|with_reducible refine And.intro ?_ ?_|((with_reducible show _≠_);first|assumption|omega|(simp_all [aZ,bg];done) |grind) |with_reducible intro _)) <;>(first|done|assumption|rfl|omega|decide|exact fk [0,1,2,4] |exact fk [0,1,2,3] |(simp_all [aZ,bg];done))) |(simp_all [okI,aZ,bg];done) |(simp_all [aZ,bg];(first|done|exact fk2 [0,1,2,4] |exact fk2 [0,1,2,3])) |exact fk2 [0,1,2,4] |exact fk2 [0,1,2,3]))):p:=h
theorem uR {p:Prop}(h:p:=by simp only[go_sem,Nat.reduceBEq,Nat.reduceLeDiff,Nat.reduceLT,decide_true,Nat.reduceAdd,Nat.reduceSub,Nat.reduceMul,Int.reduceLE,Int.reduceLT,Int.reduceToNat,Int.reduceNeg,reduceCtorEq,hc,hw];all_goals exact DS):p:=h
theorem uS {p:Prop}(h:p:=by simp only[go_sem,Nat.reduceBEq,Nat.reduceLeDiff,Nat.reduceLT,decide_true,Nat.reduceAdd,Nat.reduceSub,Nat.reduceMul,Int.reduceLE,Int.reduceLT,Int.reduceToNat,Int.reduceNeg,reduceCtorEq,hc];all_goals exact DS):p:=h
theorem DV {p:Prop}(h:p:=by simp only[go_sem,Nat.reduceBEq,Nat.reduceLeDiff,Nat.reduceLT,decide_true,Nat.reduceAdd,Nat.reduceSub,Nat.reduceMul,Int.reduceLE,Int.reduceLT,Int.reduceToNat,Int.reduceNeg,reduceCtorEq];all_goals exact rh):p:=h
theorem Km {p:Prop}(h:p:=by simp only[go_sem,Nat.reduceBEq,Nat.reduceLeDiff,Nat.reduceLT,decide_true,Nat.reduceAdd,Nat.reduceSub,Nat.reduceMul,Int.reduceLE,Int.reduceLT,Int.reduceToNat,Int.reduceNeg,reduceCtorEq,hc,hw];all_goals exact DT):p:=h
theorem Kn {p:Prop}(h:p:=by simp only[go_sem,Nat.reduceBEq,Nat.reduceLeDiff,Nat.reduceLT,decide_true,Nat.reduceAdd,Nat.reduceSub,Nat.reduceMul,Int.reduceLE,Int.reduceLT,Int.reduceToNat,Int.reduceNeg,reduceCtorEq,hc];all_goals exact DT):p:=h
theorem Ko {p:Prop}(h:p:=by simp only[go_sem,Nat.reduceBEq,Nat.reduceLeDiff,Nat.reduceLT,decide_true,Nat.reduceAdd,Nat.reduceSub,Nat.reduceMul,Int.reduceLE,Int.reduceLT,Int.reduceToNat,Int.reduceNeg,reduceCtorEq,hc,hw];all_goals exact DU):p:=h
theorem Kp {p:Prop}(h:p:=by simp only[go_sem,Nat.reduceBEq,Nat.reduceLeDiff,Nat.reduceLT,decide_true,Nat.reduceAdd,Nat.reduceSub,Nat.reduceMul,Int.reduceLE,Int.reduceLT,Int.reduceToNat,Int.reduceNeg,reduceCtorEq,hc];all_goals exact DU):p:=h
def mh (d:District)(x:Order):Bool:=(bif(((((decide (x.hour<0)) ||(decide (x.hour≥d.hours))) ||(decide (x.litres<1))) ||(decide (x.litres > 1073741824))) ||(decide (x.index<0)))then false else(bif x.outlet then(decide (x.index< (d.farms.length:Int)))else(decide (x.index< (d.reaches.length:Int)))))
@[go_sem] def sR:List SV→Option Con:=(pD .district fun d=>(pD .order fun x=>(pE (.det True (.v (.bool (mh d x)))))))
theorem zi:FnOk Tryz.prog 133 sR:=by
 have hG:ConsOk Tryz.prog (mkG [] []):=aC cg0 cg0
 refine aI [.o] mixed ax hG (fn:=Tryz.f133) (c:=ae Tryz.f133) (by kernel_rfl) (by kernel_rfl) (by kernel_rfl) (by kernel_rfl) (aN fun d=>(aN fun x=>(aB (fun hp=>?_))))
 dsimp only[aD]at hp
 refine⟨Nat.le_of_ble_eq_true rfl,L0,aj _,?_⟩
 ·unfold ae Tryz.f133
  try unfold mh
  simp only[go_sem,Nat.reduceBEq,Nat.reduceLeDiff,Nat.reduceLT,decide_true,Nat.reduceAdd,Nat.reduceSub,Nat.reduceMul,Int.reduceLE,Int.reduceLT,Int.reduceToNat,Int.reduceNeg,reduceCtorEq]
  all_goals exact cl
def cJ (a:Order)(b:Order):Bool:=(bif(a.hour !=b.hour)then(decide (a.hour<b.hour))else(bif(a.outlet !=b.outlet)then b.outlet else(decide (a.index<b.index))))
@[go_sem] def nT:List SV→Option Con:=(pD .order fun a=>(pD .order fun b=>(pE (.det True (.v (.bool (cJ a b)))))))
theorem qe:FnOk Tryz.prog 134 nT:=by
 have hG:ConsOk Tryz.prog (mkG [] []):=aC cg0 cg0
 refine aI [.o] mixed ax hG (fn:=Tryz.f134) (c:=ae Tryz.f134) (by kernel_rfl) (by kernel_rfl) (by kernel_rfl) (by kernel_rfl) (aN fun a=>(aN fun b=>(aB (fun hp=>?_))))
 dsimp only[aD]at hp
 refine⟨Nat.le_of_ble_eq_true rfl,L0,aj _,?_⟩
 ·unfold ae Tryz.f134
  try unfold cJ
  simp only[go_sem,Nat.reduceBEq,Nat.reduceLeDiff,Nat.reduceLT,decide_true,Nat.reduceAdd,Nat.reduceSub,Nat.reduceMul,Int.reduceLE,Int.reduceLT,Int.reduceToNat,Int.reduceNeg,reduceCtorEq]
  all_goals exact cl
@[go_sem] def ew (d:District)(l_:List Order)(k_0:Nat)(s_0:Unit):Unit⊕Unit:=(bif((!(mh d (l_.getD k_0 (default:Order)))) ||((decide ((k_0:Int) > 0))&&(!(cJ (l_.getD (Int.toNat (IntKind.i64.wrap ((k_0:Int) - 1))) (default:Order)) (l_.getD k_0 (default:Order))))))then .inl ()else .inr ())
def kZ (d:District)(l_:List Order)(k_0:Nat)(s_0:Unit):Prop:=(l_.length≤ba→((!(mh d (l_.getD k_0 (default:Order))))=false→((decide ((k_0:Int) > 0))=true→(0≤(IntKind.i64.wrap ((k_0:Int) - 1))∧(IntKind.i64.wrap ((k_0:Int) - 1)) < (l_.length:Int)))))
def eV (d:District)(l_:List Order):Int:=(bif((dJ d) !=0)then(dJ d)else(bif(decide ((l_.length:Int) > 4096))then 2 else(match aw (ew d l_) l_.length 0 ()with| .inl x_0_0=>220| .inr s_0=>0)))
def lG (d:District)(l_:List Order):Prop:=((iX d)∧(((dJ d) !=0)=false→(l_.length≤ba→((decide ((l_.length:Int) > 4096))=false→okI (ew d l_) (kZ d l_) l_.length 0 ()))))
@[go_sem] def sS:List SV→Option Con:=(pD .district fun d=>(pR .order fun l_=>(pE (.det (lG d l_) (.v (.int .i64 (eV d l_)))))))
theorem zj:FnOk Tryz.prog 101 sS:=by
 have hG:ConsOk Tryz.prog (mkG [(114,fun l=>oA (ci [.st .district] l)),(133,fun l=>sR (ci [.st .district,.st .order] l)),(134,nT)] []):=aC (cgc (rA.norm [.st .district]) (cgc (zi.norm [.st .district,.st .order]) (cgc qe cg0))) cg0
 refine aI [.o] mixed ax hG (fn:=Tryz.f101) (c:=ae Tryz.f101) (by kernel_rfl) (by kernel_rfl) (by kernel_rfl) (by kernel_rfl) (aN fun d=>(cg fun l_=>(aB (fun hp=>?_))))
 dsimp only[aD]at hp
 unfold lG at hp
 refine⟨Nat.le_of_ble_eq_true rfl,(fun id st=>bif Nat.beq id 0 then some (LCR (ρ:=Unit) (σ:=Unit) 1 [] [0] (fun k_0 s_0=>⟨[(1,.rs .order l_),(2,.ptr 0 0),(6,.v (.int .i64 (k_0:Int)))],[.cells (cellsOf .district d)]⟩) (ew d l_) (kZ d l_) l_.length () (True) (fun _=>.ret) (fun x_0_0=>⟨[(4,.v (.int .i64 220))],[.dead]⟩) st)else none),?_,?_⟩
 ·unfold ae Tryz.f101
  simp only[az,true_and,and_true]
  ·refine d6 (l_.length≤ba) mixed ax hG (by kernel_rfl) (fun _=>rfl) (l_.length:Int) rfl g6 (fun hb0 k_0 s_0 hlt0 hq0 hw hc=>⟨L0,aj _,?_⟩) (fun hb0 s_0 hc=>?_) fun hb0 k_0 s_0=>?_
   ·unfold kZ at hq0
    try simp only[hw,Int.toNat_natCast]at hq0
    exact ff
   ·exact fg
   ·simp only[go_sem,Nat.reduceBEq,Nat.reduceLeDiff,Nat.reduceLT,decide_true,Nat.reduceAdd,Nat.reduceSub,Nat.reduceMul,Int.reduceLE,Int.reduceLT,Int.reduceToNat,Int.reduceNeg,reduceCtorEq,hb0]
 ·unfold ae Tryz.f101
  try unfold eV
  simp only[go_sem,Nat.reduceBEq,Nat.reduceLeDiff,Nat.reduceLT,decide_true,Nat.reduceAdd,Nat.reduceSub,Nat.reduceMul,Int.reduceLE,Int.reduceLT,Int.reduceToNat,Int.reduceNeg,reduceCtorEq]
  all_goals exact cl
def k8 (d:District):Bool:=(decide ((IntKind.i64.wrap ((d.reaches.length:Int)*d.hours)) > 1024))
@[go_sem] def uT:List SV→Option Con:=(pD .district fun d=>(pE (.det True (.v (.bool (k8 d))))))
theorem z6:FnOk Tryz.prog 102 uT:=by
 have hG:ConsOk Tryz.prog (mkG [] []):=aC cg0 cg0
 refine aI [.o] mixed ax hG (fn:=Tryz.f102) (c:=ae Tryz.f102) (by kernel_rfl) (by kernel_rfl) (by kernel_rfl) (by kernel_rfl) (aN fun d=>(aB (fun hp=>?_)))
 dsimp only[aD]at hp
 refine⟨Nat.le_of_ble_eq_true rfl,L0,aj _,?_⟩
 ·unfold ae Tryz.f102
  try unfold k8
  simp only[go_sem,Nat.reduceBEq,Nat.reduceLeDiff,Nat.reduceLT,decide_true,Nat.reduceAdd,Nat.reduceSub,Nat.reduceMul,Int.reduceLE,Int.reduceLT,Int.reduceToNat,Int.reduceNeg,reduceCtorEq]
  all_goals exact cl
@[go_sem] def d_ (d:District)(l_:List Order)(reach:Int)(k_0:Nat)(s_0:List Int):Empty⊕(List Int):=(bif((l_.getD k_0 (default:Order)).outlet&&((d.farms.getD (Int.toNat ((l_.getD k_0 (default:Order)).index)) (default:Farm)).reach==reach))then .inr (s_0.set (Int.toNat ((l_.getD k_0 (default:Order)).hour)) (IntKind.i64.wrap ((s_0.getD (Int.toNat ((l_.getD k_0 (default:Order)).hour)) (0:Int))+(l_.getD k_0 (default:Order)).litres)))else .inr s_0)
def jx (d:District)(l_:List Order)(reach:Int)(k_0:Nat)(s_0:List Int):Prop:=(l_.length≤ba→(((l_.getD k_0 (default:Order)).outlet=true→(0≤(l_.getD k_0 (default:Order)).index∧(l_.getD k_0 (default:Order)).index< (d.farms.length:Int)))∧(((l_.getD k_0 (default:Order)).outlet&&((d.farms.getD (Int.toNat ((l_.getD k_0 (default:Order)).index)) (default:Farm)).reach==reach))=true→((0≤(l_.getD k_0 (default:Order)).hour∧(l_.getD k_0 (default:Order)).hour< (s_0.length:Int))∧(0≤(l_.getD k_0 (default:Order)).hour∧(l_.getD k_0 (default:Order)).hour< (s_0.length:Int))))))
def cC (d:District)(l_:List Order)(reach:Int):List Int:=(match aw (d_ d l_ reach) l_.length 0 (List.replicate (Int.toNat d.hours) (0:Int))with| .inl x=>x.elim| .inr s_0=>s_0)
def jg (d:District)(l_:List Order)(reach:Int):Prop:=((d.hours=d.hours∧0≤d.hours∧d.hours*((8:Nat):Int)≤((eD:Nat):Int))∧(d.hours≤((ba:Nat):Int)→okI (d_ d l_ reach) (jx d l_ reach) l_.length 0 (List.replicate (Int.toNat d.hours) (0:Int))))
@[go_sem] def qf:List SV→Option Con:=(pD .district fun d=>(pR .order fun l_=>(pI fun reach=>(pE (.det (jg d l_ reach) (.nw .int (cC d l_ reach)))))))
theorem vZ:FnOk Tryz.prog 135 qf:=by
 have hG:ConsOk Tryz.prog (mkG [] []):=aC cg0 cg0
 refine qL true mixed ax hG (fn:=Tryz.f135) (c:=ae Tryz.f135) (by kernel_rfl) (by kernel_rfl) (by kernel_rfl) (by kernel_rfl) (aN fun d=>(cg fun l_=>(b8 fun reach=>(aB (fun hp=>?_)))))
 dsimp only[aD]at hp
 unfold jg at hp
 refine⟨Nat.le_of_ble_eq_true rfl,(fun id st=>bif Nat.beq id 0 then some (LCR (ρ:=Empty) (σ:=(List Int)) 2 [] [0,1] (fun k_0 s_0=>⟨[(1,.rs .order l_),(2,.v (.int .i64 reach)),(3,.ptr 0 0),(7,.os 1),(8,.v (.int .i64 (k_0:Int)))],[.cells (cellsOf .district d),.row .int s_0]⟩) (d_ d l_ reach) (jx d l_ reach) l_.length (List.replicate (Int.toNat d.hours) (0:Int)) (True) ((·.elim)) ((·.elim)) st)else none),?_,?_⟩
 ·unfold ae Tryz.f135
  simp only[az,true_and,and_true]
  ·refine d6 (l_.length≤ba) mixed ax hG (by kernel_rfl) (fun _=>rfl) (l_.length:Int) rfl g6 (fun hb0 k_0 s_0 hlt0 hq0 hw hc=>⟨L0,aj _,?_⟩) (fun hb0 s_0 hc=>?_) fun hb0 k_0 s_0=>?_
   ·unfold jx at hq0
    try simp only[hw,Int.toNat_natCast]at hq0
    exact uR
   ·exact uS
   ·simp only[go_sem,Nat.reduceBEq,Nat.reduceLeDiff,Nat.reduceLT,decide_true,Nat.reduceAdd,Nat.reduceSub,Nat.reduceMul,Int.reduceLE,Int.reduceLT,Int.reduceToNat,Int.reduceNeg,reduceCtorEq,hb0]
 ·unfold ae Tryz.f135
  try unfold cC
  simp only[go_sem,Nat.reduceBEq,Nat.reduceLeDiff,Nat.reduceLT,decide_true,Nat.reduceAdd,Nat.reduceSub,Nat.reduceMul,Int.reduceLE,Int.reduceLT,Int.reduceToNat,Int.reduceNeg,reduceCtorEq]
  all_goals exact cl
@[go_sem] def fD (l_:List Order)(x:Order)(k_0:Nat)(s_0:Int):Int⊕Int:=(bif((decide (s_0< (l_.length:Int)))&&(cJ (l_.getD (Int.toNat s_0) (default:Order)) x))then .inr (IntKind.i64.wrap (s_0+1))else .inl s_0)
def kh (l_:List Order)(x:Order)(k_0:Nat)(s_0:Int):Prop:=(l_.length≤ba→((decide (s_0< (l_.length:Int)))=true→(0≤s_0∧s_0< (l_.length:Int))))
def nb (l_:List Order)(x:Order):List Order:=(match aw (fD l_ x) (l_.length+1) 0 0 with| .inl x_0_0=>(((([])++((l_.take (Int.toNat x_0_0)).drop 0))++([x]))++((l_.take (Int.toNat (l_.length:Int))).drop (Int.toNat x_0_0))) | .inr s_0=>default)
def ou (l_:List Order)(x:Order):Prop:=(okI (fD l_ x) (kh l_ x) (l_.length+1) 0 0∧(∀ z_,aw (fD l_ x) (l_.length+1) 0 0≠ .inr z_)∧(∀ x_0_0,aw (fD l_ x) (l_.length+1) 0 0=.inl x_0_0→((0≤0∧0≤x_0_0∧x_0_0≤(l_.length:Int))∧(((([])++((l_.take (Int.toNat x_0_0)).drop 0)).length*32≤eD)∧((([])++((l_.take (Int.toNat x_0_0)).drop 0)).length≤ba→((((([])++((l_.take (Int.toNat x_0_0)).drop 0))++([x])).length*32≤eD)∧(((([])++((l_.take (Int.toNat x_0_0)).drop 0))++([x])).length≤ba→((0≤x_0_0∧x_0_0≤(l_.length:Int)∧(l_.length:Int)≤(l_.length:Int))∧((((([])++((l_.take (Int.toNat x_0_0)).drop 0))++([x]))++((l_.take (Int.toNat (l_.length:Int))).drop (Int.toNat x_0_0))).length*32≤eD)))))))))
@[go_sem] def wz:List SV→Option Con:=(pR .order fun l_=>(pD .order fun x=>(pE (.det (ou l_ x) (.nw .order (nb l_ x))))))
theorem Ca:FnOk Tryz.prog 104 wz:=by
 have hG:ConsOk Tryz.prog (mkG [(134,nT)] []):=aC (cgc qe cg0) cg0
 refine qL true mixed ax hG (fn:=Tryz.f104) (c:=ae Tryz.f104) (by kernel_rfl) (by kernel_rfl) (by kernel_rfl) (by kernel_rfl) (cg fun l_=>(aN fun x=>(aB (fun hp=>?_))))
 dsimp only[aD]at hp
 unfold ou at hp
 refine⟨Nat.le_of_ble_eq_true rfl,(fun id st=>bif Nat.beq id 0 then some (LCV (ρ:=Int) (σ:=Int) 1 [] [0] (fun k_0 s_0=>⟨[(0,.rs .order l_),(3,.ptr 0 0),(5,.v (.int .i64 s_0))],[.cells (cellsOf .order x)]⟩) (fD l_ x) (kh l_ x) (l_.length+1) 0 (fun _=>.normal) (fun x_0_0=>⟨[(0,.rs .order l_),(3,.ptr 0 0),(5,.v (.int .i64 x_0_0))],[.cells (cellsOf .order x)]⟩) st)else none),?_,?_⟩
 ·unfold ae Tryz.f104
  simp only[az,true_and,and_true]
  ·refine jR mixed ax hG (by kernel_rfl) (fun _=>rfl) fun k_0 s_0 hq0=>⟨L0,aj _,?_⟩
   ·unfold kh at hq0
    exact DQ
 ·unfold ae Tryz.f104
  try unfold nb
  simp only[go_sem,Nat.reduceBEq,Nat.reduceLeDiff,Nat.reduceLT,decide_true,Nat.reduceAdd,Nat.reduceSub,Nat.reduceMul,Int.reduceLE,Int.reduceLT,Int.reduceToNat,Int.reduceNeg,reduceCtorEq]
  all_goals exact cl
@[go_sem] def cq (a0:District)(s_0:List (List Int)×Int)(s_1:List Int×Int)(k_2:Nat)(s_2:List Int×Int):(List Int)⊕(List Int×Int):=(bif((decide (s_2.2<a0.hours))&&((a0.reaches.getD (Int.toNat s_1.2) (default:Reach)).up==s_0.2))then .inr ((s_2.1.set (Int.toNat s_2.2) (IntKind.i64.wrap ((s_2.1.getD (Int.toNat s_2.2) (0:Int))+(((s_0.1.set (Int.toNat s_0.2) (List.replicate (Int.toNat a0.hours) (0:Int))).getD (Int.toNat s_1.2) []).getD (Int.toNat s_2.2) (0:Int))))),(IntKind.i64.wrap (s_2.2+1)))else .inl s_2.1)
def gm (a0:District)(s_0:List (List Int)×Int)(s_1:List Int×Int)(k_2:Nat)(s_2:List Int×Int):Prop:=(((decide (s_2.2<a0.hours))=true→(0≤s_1.2∧s_1.2< (a0.reaches.length:Int)))∧(((decide (s_2.2<a0.hours))&&((a0.reaches.getD (Int.toNat s_1.2) (default:Reach)).up==s_0.2))=true→((0≤s_2.2∧s_2.2< (s_2.1.length:Int))∧((0≤s_1.2∧s_1.2< ((s_0.1.set (Int.toNat s_0.2) (List.replicate (Int.toNat a0.hours) (0:Int))).length:Int))∧((0≤s_2.2∧s_2.2< (((s_0.1.set (Int.toNat s_0.2) (List.replicate (Int.toNat a0.hours) (0:Int))).getD (Int.toNat s_1.2) []).length:Int))∧(0≤s_2.2∧s_2.2< (s_2.1.length:Int)))))))
@[go_sem] def bL (a0:District)(s_0:List (List Int)×Int)(k_1:Nat)(s_1:List Int×Int):(List Int)⊕(List Int×Int):=(bif(decide (s_1.2< (a0.reaches.length:Int)))then(match aw (cq a0 s_0 s_1) (Int.toNat a0.hours+1) 0 (s_1.1,0)with| .inl x_2_0=>.inr (x_2_0,(IntKind.i64.wrap (s_1.2+1))) | .inr s_2=>.inr default)else .inl s_1.1)
def gn (a0:District)(s_0:List (List Int)×Int)(k_1:Nat)(s_1:List Int×Int):Prop:=(a0.reaches.length≤ba→((decide (s_1.2< (a0.reaches.length:Int)))=true→(okI (cq a0 s_0 s_1) (gm a0 s_0 s_1) (Int.toNat a0.hours+1) 0 (s_1.1,0)∧(∀ z_,aw (cq a0 s_0 s_1) (Int.toNat a0.hours+1) 0 (s_1.1,0)≠ .inr z_))))
@[go_sem] def cd (a0:District)(s_0:List (List Int)×Int)(x_1_0:List Int)(k_3:Nat)(s_3:List (List Int)):Unit⊕(List (List Int)):=(bif((!(bY (a0.reaches.getD (Int.toNat s_0.2) (default:Reach)) (x_1_0.getD k_3 (0:Int))).2) ||((decide ((bY (a0.reaches.getD (Int.toNat s_0.2) (default:Reach)) (x_1_0.getD k_3 (0:Int))).1 > 0))&&(decide ((IntKind.i64.wrap ((k_3:Int) - (a0.reaches.getD (Int.toNat s_0.2) (default:Reach)).delay)) <0))))then .inl ()else(bif(decide ((bY (a0.reaches.getD (Int.toNat s_0.2) (default:Reach)) (x_1_0.getD k_3 (0:Int))).1 > 0))then .inr (s_3.set (Int.toNat s_0.2) ((s_3.getD (Int.toNat s_0.2) []).set (Int.toNat (IntKind.i64.wrap ((k_3:Int) - (a0.reaches.getD (Int.toNat s_0.2) (default:Reach)).delay))) (bY (a0.reaches.getD (Int.toNat s_0.2) (default:Reach)) (x_1_0.getD k_3 (0:Int))).1))else .inr s_3))
def dE (a0:District)(s_0:List (List Int)×Int)(x_1_0:List Int)(k_3:Nat)(s_3:List (List Int)):Prop:=((0≤s_0.2∧s_0.2< (a0.reaches.length:Int))∧((0≤(k_3:Int)∧(k_3:Int) < (x_1_0.length:Int))∧((kg (a0.reaches.getD (Int.toNat s_0.2) (default:Reach)) (x_1_0.getD k_3 (0:Int)))∧((0≤s_0.2∧s_0.2< (a0.reaches.length:Int))∧(((!(bY (a0.reaches.getD (Int.toNat s_0.2) (default:Reach)) (x_1_0.getD k_3 (0:Int))).2) ||((decide ((bY (a0.reaches.getD (Int.toNat s_0.2) (default:Reach)) (x_1_0.getD k_3 (0:Int))).1 > 0))&&(decide ((IntKind.i64.wrap ((k_3:Int) - (a0.reaches.getD (Int.toNat s_0.2) (default:Reach)).delay)) <0))))=false→((decide ((bY (a0.reaches.getD (Int.toNat s_0.2) (default:Reach)) (x_1_0.getD k_3 (0:Int))).1 > 0))=true→((0≤s_0.2∧s_0.2< (s_3.length:Int))∧(0≤(IntKind.i64.wrap ((k_3:Int) - (a0.reaches.getD (Int.toNat s_0.2) (default:Reach)).delay))∧(IntKind.i64.wrap ((k_3:Int) - (a0.reaches.getD (Int.toNat s_0.2) (default:Reach)).delay)) < ((s_3.getD (Int.toNat s_0.2) []).length:Int)))))))))
@[go_sem] def bP (a0:District)(a1:List Order)(k_0:Nat)(s_0:List (List Int)×Int):(Unit⊕(List (List Int)))⊕(List (List Int)×Int):=(bif(decide (s_0.2≥0))then(match aw (bL a0 s_0) (a0.reaches.length+1) 0 ((cC a0 a1 s_0.2),(IntKind.i64.wrap (s_0.2+1)))with| .inl x_1_0=>(match aw (cd a0 s_0 x_1_0) (Int.toNat a0.hours) 0 (s_0.1.set (Int.toNat s_0.2) (List.replicate (Int.toNat a0.hours) (0:Int)))with| .inl x_3_0=>.inl (.inl ()) | .inr s_3=>.inr (s_3,(IntKind.i64.wrap (s_0.2 - 1)))) | .inr s_1=>.inr default)else .inl (.inr s_0.1))
def dF (a0:District)(a1:List Order)(k_0:Nat)(s_0:List (List Int)×Int):Prop:=((decide (s_0.2≥0))=true→((a0.hours=a0.hours∧0≤a0.hours∧a0.hours*((8:Nat):Int)≤((eD:Nat):Int))∧(a0.hours≤((ba:Nat):Int)→((0≤s_0.2∧s_0.2< (s_0.1.length:Int))∧((jg a0 a1 s_0.2)∧(okI (bL a0 s_0) (gn a0 s_0) (a0.reaches.length+1) 0 ((cC a0 a1 s_0.2),(IntKind.i64.wrap (s_0.2+1)))∧(∀ z_,aw (bL a0 s_0) (a0.reaches.length+1) 0 ((cC a0 a1 s_0.2),(IntKind.i64.wrap (s_0.2+1)))≠ .inr z_)∧(∀ x_1_0,aw (bL a0 s_0) (a0.reaches.length+1) 0 ((cC a0 a1 s_0.2),(IntKind.i64.wrap (s_0.2+1)))=.inl x_1_0→((a0.hours<9223372036854775808)∧okI (cd a0 s_0 x_1_0) (dE a0 s_0 x_1_0) (Int.toNat a0.hours) 0 (s_0.1.set (Int.toNat s_0.2) (List.replicate (Int.toNat a0.hours) (0:Int)))))))))))
def aV (a0:District)(a1:List Order):List (List Int)×Bool:=(match aw (bP a0 a1) (a0.reaches.length+1) 0 ((List.replicate a0.reaches.length []),(IntKind.i64.wrap ((a0.reaches.length:Int) - 1)))with| .inl (.inl x_0_0) =>([],false) | .inl (.inr x_0_1) =>(x_0_1,true) | .inr s_0=>default)
def jh (a0:District)(a1:List Order):Prop:=(a0.reaches.length≤ba→(((a0.reaches.length:Int)=(a0.reaches.length:Int)∧0≤(a0.reaches.length:Int)∧(a0.reaches.length:Int)*((24:Nat):Int)≤((eD:Nat):Int))∧((a0.reaches.length:Int)≤((ba:Nat):Int)→(a0.reaches.length≤ba→(okI (bP a0 a1) (dF a0 a1) (a0.reaches.length+1) 0 ((List.replicate a0.reaches.length []),(IntKind.i64.wrap ((a0.reaches.length:Int) - 1)))∧(∀ z_,aw (bP a0 a1) (a0.reaches.length+1) 0 ((List.replicate a0.reaches.length []),(IntKind.i64.wrap ((a0.reaches.length:Int) - 1)))≠ .inr z_))))))
@[go_sem] def qg:List SV→Option Con:=(pD .district fun a0=>(pR .order fun a1=>(pE (.det (jh a0 a1) (.tup [.rs .ints ((aV a0 a1).1),.v (.bool ((aV a0 a1).2))])))))
theorem v6:FnOk Tryz.prog 103 qg:=by
 have hG:ConsOk Tryz.prog (mkG [(135,fun l=>qf (ci [.st .district,.sl .order,.o] l)),(136,rD)] []):=aC (cgc (vZ.norm [.st .district,.sl .order,.o]) (cgc w8 cg0)) cg0
 refine aI [.sl .ints,.o] mixed ax hG (fn:=Tryz.f103) (c:=ae Tryz.f103) (by kernel_rfl) (by kernel_rfl) (by kernel_rfl) (by kernel_rfl) (aN fun a0=>(cg fun a1=>(aB (fun hp=>?_))))
 dsimp only[aD]at hp
 unfold jh at hp
 refine⟨Nat.le_of_ble_eq_true rfl,(fun id st=>bif Nat.beq id 0 then some (LCV (ρ:=(Unit⊕(List (List Int)))) (σ:=(List (List Int)×Int)) 2 [] [0,1,1] (fun k_0 s_0=>⟨[(1,.rs .order a1),(2,.ptr 0 0),(6,.os 2),(7,.v (.int .i64 s_0.2))],[.cells (cellsOf .district a0),.dead,.grid .int s_0.1]⟩) (bP a0 a1) (dF a0 a1) (a0.reaches.length+1) ((List.replicate a0.reaches.length []),(IntKind.i64.wrap ((a0.reaches.length:Int) - 1))) (fun x=>match x with|(.inl _) =>.ret|(.inr _) =>.normal) (fun x=>match x with|(.inl x_0_0) =>⟨[(4,.v (.slice none 0 0)),(5,.v (.bool false))],[.dead,.dead,.dead]⟩ |(.inr x_0_1) =>⟨[(6,.os 2)],[.dead,.dead,.grid .int x_0_1]⟩) st)else none),?_,?_⟩
 ·unfold ae Tryz.f103
  simp only[az,true_and,and_true]
  ·refine jR mixed ax hG (by kernel_rfl) (fun _=>rfl) fun k_0 s_0 hq0=>⟨(fun id st=>bif Nat.beq id 2 then some (LCV (ρ:=(List Int)) (σ:=(List Int×Int)) 6 [] [0,1,2,3,4,5] (fun k_1 s_1=>⟨[(1,.rs .order a1),(2,.ptr 0 0),(6,.os 4),(7,.v (.int .i64 s_0.2)),(8,.os 5),(9,.v (.int .i64 s_1.2))],[.cells (cellsOf .district a0),.dead,.dead,.dead,.grid .int (s_0.1.set (Int.toNat s_0.2) (List.replicate (Int.toNat a0.hours) (0:Int))),.row .int s_1.1]⟩) (bL a0 s_0) (gn a0 s_0) (a0.reaches.length+1) ((cC a0 a1 s_0.2),(IntKind.i64.wrap (s_0.2+1))) (fun _=>.normal) (fun x_1_0=>⟨[(1,.rs .order a1),(2,.ptr 0 0),(6,.os 4),(7,.v (.int .i64 s_0.2)),(8,.os 5)],[.cells (cellsOf .district a0),.dead,.dead,.dead,.grid .int (s_0.1.set (Int.toNat s_0.2) (List.replicate (Int.toNat a0.hours) (0:Int))),.row .int x_1_0]⟩) st)else bif Nat.beq id 6 then some (LCR (ρ:=Unit) (σ:=(List (List Int))) 6 [] [0,1,2,3,4,5] (fun k_3 s_3=>⟨[(1,.rs .order a1),(2,.ptr 0 0),(6,.os 4),(7,.v (.int .i64 s_0.2)),(8,.os 5),(11,.v (.int .i64 (k_3:Int)))],[.cells (cellsOf .district a0),.dead,.dead,.dead,.grid .int s_3,.row .int (bg (aw (bL a0 s_0) (a0.reaches.length+1) 0 ((cC a0 a1 s_0.2),(IntKind.i64.wrap (s_0.2+1)))))]⟩) (cd a0 s_0 (bg (aw (bL a0 s_0) (a0.reaches.length+1) 0 ((cC a0 a1 s_0.2),(IntKind.i64.wrap (s_0.2+1)))))) (dE a0 s_0 (bg (aw (bL a0 s_0) (a0.reaches.length+1) 0 ((cC a0 a1 s_0.2),(IntKind.i64.wrap (s_0.2+1)))))) (Int.toNat a0.hours) (s_0.1.set (Int.toNat s_0.2) (List.replicate (Int.toNat a0.hours) (0:Int))) (a0.hours<9223372036854775808) (fun _=>.ret) (fun x_3_0=>⟨[(4,.v (.slice none 0 0)),(5,.v (.bool false))],[.dead,.dead,.dead,.dead,.dead,.dead]⟩) st)else none),?_,?_⟩
   ·simp only[az,true_and,and_true]
    refine⟨?_,?_⟩
    ·refine jR mixed ax hG (by kernel_rfl) (fun _=>rfl) fun k_1 s_1 hq1=>⟨(fun id st=>bif Nat.beq id 4 then some (LCV (ρ:=(List Int)) (σ:=(List Int×Int)) 6 [] [0,1,2,3,4,5] (fun k_2 s_2=>⟨[(1,.rs .order a1),(2,.ptr 0 0),(6,.os 4),(7,.v (.int .i64 s_0.2)),(8,.os 5),(9,.v (.int .i64 s_1.2)),(10,.v (.int .i64 s_2.2))],[.cells (cellsOf .district a0),.dead,.dead,.dead,.grid .int (s_0.1.set (Int.toNat s_0.2) (List.replicate (Int.toNat a0.hours) (0:Int))),.row .int s_2.1]⟩) (cq a0 s_0 s_1) (gm a0 s_0 s_1) (Int.toNat a0.hours+1) (s_1.1,0) (fun _=>.normal) (fun x_2_0=>⟨[(1,.rs .order a1),(2,.ptr 0 0),(6,.os 4),(7,.v (.int .i64 s_0.2)),(8,.os 5),(9,.v (.int .i64 s_1.2))],[.cells (cellsOf .district a0),.dead,.dead,.dead,.grid .int (s_0.1.set (Int.toNat s_0.2) (List.replicate (Int.toNat a0.hours) (0:Int))),.row .int x_2_0]⟩) st)else none),?_,?_⟩
     ·simp only[az,true_and,and_true]
      ·refine jR mixed ax hG (by kernel_rfl) (fun _=>rfl) fun k_2 s_2 hq2=>⟨L0,aj _,?_⟩
       ·unfold gm at hq2
        exact DV
     ·unfold gn at hq1
      exact DV
    ·refine dy mixed ax hG (by kernel_rfl) (fun _=>rfl) a0.hours rfl id (fun hb3 k_3 s_3 hlt3 hq3 hw hc=>⟨L0,aj _,?_⟩) (fun hb3 s_3 hc=>?_)
     ·unfold dE at hq3
      try simp only[hw,Int.toNat_natCast]at hq3
      simp only[go_sem,Nat.reduceBEq,Nat.reduceLeDiff,Nat.reduceLT,decide_true,Nat.reduceAdd,Nat.reduceSub,Nat.reduceMul,Int.reduceLE,Int.reduceLT,Int.reduceToNat,Int.reduceNeg,reduceCtorEq,hc,hw]
      all_goals (repeat' (first|with_reducible refine And.intro ?_ ?_|with_reducible intro _))
      all_goals first|exact rh|(rename_i h1 h2;rw[h1,cond_false,h2];exact rh) |(rename_i h1 h2;have hq:=hq3.2.2.2.2 h1 h2;omega)
     ·exact Dx
   ·unfold dF at hq0
    simp only[go_sem,Nat.reduceBEq,Nat.reduceLeDiff,Nat.reduceLT,decide_true,Nat.reduceAdd,Nat.reduceSub,Nat.reduceMul,Int.reduceLE,Int.reduceLT,Int.reduceToNat,Int.reduceNeg,reduceCtorEq]
    all_goals (repeat' (first|with_reducible refine And.intro ?_ ?_|with_reducible intro _))
    all_goals first|exact rE|(rename_i h1 _ _ h3 _ h4;simp only[h3,bg]at h4;simp only[h1,h3,h4,bg,cond_true];exact rE)
 ·unfold ae Tryz.f103
  try unfold aV
  simp only[go_sem,Nat.reduceBEq,Nat.reduceLeDiff,Nat.reduceLT,decide_true,Nat.reduceAdd,Nat.reduceSub,Nat.reduceMul,Int.reduceLE,Int.reduceLT,Int.reduceToNat,Int.reduceNeg,reduceCtorEq,Sum.forall]
  all_goals exact cl
@[go_sem] def fH (a1:List Order)(k_0:Nat)(s_0:Unit):Unit⊕Unit:=(bif(!(a1.getD k_0 (default:Order)).outlet)then .inl ()else .inr ())
@[go_sem] def fI (a0:District)(a1:List Order)(k_1:Nat)(k_2:Nat)(s_2:List Order):Empty⊕(List Order):=(bif(decide (((((aV a0 a1).1).getD k_1 (default:List Int)).getD k_2 (0:Int)) > 0))then .inr (nb s_2 ({ hour:=(k_2:Int),index:=(k_1:Int),litres:=((((aV a0 a1).1).getD k_1 (default:List Int)).getD k_2 (0:Int)),outlet:=false}:Order))else .inr s_2)
def gE (a0:District)(a1:List Order)(k_1:Nat)(k_2:Nat)(s_2:List Order):Prop:=((0≤(k_2:Int)∧(k_2:Int) < ((((aV a0 a1).1).getD k_1 (default:List Int)).length:Int))∧((decide (((((aV a0 a1).1).getD k_1 (default:List Int)).getD k_2 (0:Int)) > 0))=true→((0≤(k_2:Int)∧(k_2:Int) < ((((aV a0 a1).1).getD k_1 (default:List Int)).length:Int))∧(ou s_2 ({ hour:=(k_2:Int),index:=(k_1:Int),litres:=((((aV a0 a1).1).getD k_1 (default:List Int)).getD k_2 (0:Int)),outlet:=false}:Order)))))
@[go_sem] def eW (a0:District)(a1:List Order)(k_1:Nat)(s_1:List Order):Empty⊕(List Order):=(match aw (fI a0 a1 k_1) (Int.toNat a0.hours) 0 s_1 with| .inl x=>x.elim| .inr s_2=>.inr s_2)
def ji (a0:District)(a1:List Order)(k_1:Nat)(s_1:List Order):Prop:=(((aV a0 a1).1).length≤ba→((a0.hours<9223372036854775808)∧okI (fI a0 a1 k_1) (gE a0 a1 k_1) (Int.toNat a0.hours) 0 s_1))
def cr (a0:District)(a1:List Order):List Order×Bool×Int:=(bif((eV a0 a1) !=0)then([],false,(eV a0 a1))else(bif(k8 a0)then([],false,2)else(match aw (fH a1) a1.length 0 ()with| .inl x_0_0=>([],false,220) | .inr s_0=>(bif(!(aV a0 a1).2)then([],false,0)else(match aw (eW a0 a1) (((aV a0 a1).1).length) 0 (([])++a1)with| .inl x=>x.elim| .inr s_1=>(bif(decide ((s_1.length:Int) > 4096))then([],false,2)else(s_1,true,0)))))))
def mT (a0:District)(a1:List Order):Prop:=((lG a0 a1)∧(((eV a0 a1) !=0)=false→((k8 a0)=false→(∀ s_0,aw (fH a1) a1.length 0 ()=.inr s_0→((jh a0 a1)∧((!(aV a0 a1).2)=false→(((([])++a1).length*32≤eD)∧((([])++a1).length≤ba→okI (eW a0 a1) (ji a0 a1) (((aV a0 a1).1).length) 0 (([])++a1)))))))))
@[go_sem] def uU:List SV→Option Con:=(pD .district fun a0=>(pR .order fun a1=>(pE (.det (mT a0 a1) (.tup [.nw .order ((cr a0 a1).1),.v (.bool ((cr a0 a1).2.1)),.v (.int .i64 ((cr a0 a1).2.2))])))))
theorem z7:FnOk Tryz.prog 58 uU:=by
 have hG:ConsOk Tryz.prog (mkG [(101,fun l=>sS (ci [.st .district,.sl .order] l)),(102,fun l=>uT (ci [.st .district] l)),(103,fun l=>qg (ci [.st .district,.sl .order] l)),(104,fun l=>wz (ci [.sl .order,.st .order] l))] []):=aC (cgc (zj.norm [.st .district,.sl .order]) (cgc (z6.norm [.st .district]) (cgc (v6.norm [.st .district,.sl .order]) (cgc (Ca.norm [.sl .order,.st .order]) cg0)))) cg0
 refine tz [(.tmp 4,.order)] mixed ax hG (fn:=Tryz.f58) (c:=ae Tryz.f58) (by kernel_rfl) (by kernel_rfl) (by kernel_rfl) (by kernel_rfl) (aN fun a0=>(cg fun a1=>(aB (fun hp=>?_))))
 dsimp only[aD]at hp
 unfold mT at hp
 refine⟨Nat.le_of_ble_eq_true rfl,(fun id st=>bif Nat.beq id 0 then some (LCR (ρ:=Unit) (σ:=Unit) 1 [] [0] (fun k_0 s_0=>⟨[(1,.rs .order a1),(2,.ptr 0 0),(8,.v (.int .i64 (k_0:Int)))],[.cells (cellsOf .district a0)]⟩) (fH a1) pT a1.length () (True) (fun _=>.ret) (fun x_0_0=>⟨[(4,.v (.slice none 0 0)),(5,.v (.bool false)),(6,.v (.int .i64 220))],[.dead]⟩) st)else bif Nat.beq id 2 then some (LCR (ρ:=Empty) (σ:=(List Order)) 2 [] [0,1,1] (fun k_1 s_1=>⟨[(2,.ptr 0 0),(9,.rs .ints ((aV a0 a1).1)),(11,.os 2),(12,.v (.int .i64 (k_1:Int)))],[.cells (cellsOf .district a0),.dead,.row .order s_1]⟩) (eW a0 a1) (ji a0 a1) (((aV a0 a1).1).length) (([])++a1) (True) ((·.elim)) ((·.elim)) st)else none),?_,?_⟩
 ·unfold ae Tryz.f58
  simp only[az,true_and,and_true]
  refine⟨?_,?_⟩
  ·refine d6 (a1.length≤ba) mixed ax hG (by kernel_rfl) (fun _=>rfl) (a1.length:Int) rfl g6 (fun hb0 k_0 s_0 hlt0 _ hw hc=>⟨L0,aj _,?_⟩) (fun hb0 s_0 hc=>?_) fun hb0 k_0 s_0=>?_
   ·exact ff
   ·exact fg
   ·simp only[go_sem,Nat.reduceBEq,Nat.reduceLeDiff,Nat.reduceLT,decide_true,Nat.reduceAdd,Nat.reduceSub,Nat.reduceMul,Int.reduceLE,Int.reduceLT,Int.reduceToNat,Int.reduceNeg,reduceCtorEq,hb0]
  ·refine d6 (((aV a0 a1).1).length≤ba) mixed ax hG (by kernel_rfl) (fun _=>rfl) (((aV a0 a1).1).length:Int) rfl g6 (fun hb1 k_1 s_1 hlt1 hq1 hw hc=>⟨(fun id st=>bif Nat.beq id 4 then some (LCR (ρ:=Empty) (σ:=(List Order)) 3 [] [0,1,2,2] (fun k_2 s_2=>⟨[(2,.ptr 0 0),(9,.rs .ints ((aV a0 a1).1)),(11,.os 3),(12,.v (.int .i64 (k_1:Int))),(13,.v (.int .i64 (k_2:Int)))],[.cells (cellsOf .district a0),.dead,.dead,.row .order s_2]⟩) (fI a0 a1 k_1) (gE a0 a1 k_1) (Int.toNat a0.hours) s_1 (a0.hours<9223372036854775808) ((·.elim)) ((·.elim)) st)else none),?_,?_⟩) (fun hb1 s_1 hc=>?_) fun hb1 k_1 s_1=>?_
   ·simp only[az,true_and,and_true]
    ·refine dy mixed ax hG (by kernel_rfl) (fun _=>rfl) a0.hours rfl id (fun hb2 k_2 s_2 hlt2 hq2 hw hc=>⟨L0,aj _,?_⟩) (fun hb2 s_2 hc=>?_)
     ·unfold gE at hq2
      try simp only[hw,Int.toNat_natCast]at hq2
      exact Ko
     ·exact Kp
   ·unfold ji at hq1
    try simp only[hw,Int.toNat_natCast]at hq1
    exact Km
   ·exact Kn
   ·simp only[go_sem,Nat.reduceBEq,Nat.reduceLeDiff,Nat.reduceLT,decide_true,Nat.reduceAdd,Nat.reduceSub,Nat.reduceMul,Int.reduceLE,Int.reduceLT,Int.reduceToNat,Int.reduceNeg,reduceCtorEq,hb1]
 ·unfold ae Tryz.f58
  try unfold cr
  simp only[go_sem,Nat.reduceBEq,Nat.reduceLeDiff,Nat.reduceLT,decide_true,Nat.reduceAdd,Nat.reduceSub,Nat.reduceMul,Int.reduceLE,Int.reduceLT,Int.reduceToNat,Int.reduceNeg,reduceCtorEq]
  all_goals exact cl
end Go.Sx
end
section
namespace Go.Proofs
open Go.Shelf
def Tryz.sortLc_ren:Go.Shelf.Ren:=⟨fun|6=>67|15=>112|14=>111|28=>146|29=>147|20=>138|21=>139|22=>140|23=>141|24=>142|25=>143|26=>144|27=>145|46=>166|47=>167|48=>168|49=>169|50=>170|57=>182|n=>n,fun|22=>32|24=>49|25=>80|3=>3|39=>166|0=>0|53=>202|55=>204|4=>4|46=>196|45=>195|50=>147|5=>5|9=>9|66=>215|70=>219|76=>227|77=>228|n=>n,fun|n=>n⟩
theorem Tryz.sortLc:Go.Proofs.SlLaysF0.n6 Tryz.prog Tryz.sortLc_ren:= {
 mixed:=by kernel_rfl
 f6:=⟨Tryz.f67.name,by decide,Tryz.func67.trans (congrArg some (by kernel_rfl))⟩
 f14:=⟨Tryz.f111.name,by decide,Tryz.func111.trans (congrArg some (by kernel_rfl))⟩
 f15:=Tryz.func112.trans (congrArg some (by kernel_rfl))
 f20:=⟨Tryz.f138.name,by decide,Tryz.func138.trans (congrArg some (by kernel_rfl))⟩
 f21:=⟨Tryz.f139.name,by decide,Tryz.func139.trans (congrArg some (by kernel_rfl))⟩
 f22:=⟨Tryz.f140.name,by decide,Tryz.func140.trans (congrArg some (by kernel_rfl))⟩
 f23:=⟨Tryz.f141.name,by decide,Tryz.func141.trans (congrArg some (by kernel_rfl))⟩
 f24:=⟨Tryz.f142.name,by decide,Tryz.func142.trans (congrArg some (by kernel_rfl))⟩
 f25:=⟨Tryz.f143.name,by decide,Tryz.func143.trans (congrArg some (by kernel_rfl))⟩
 f26:=⟨Tryz.f144.name,by decide,Tryz.func144.trans (congrArg some (by kernel_rfl))⟩
 f27:=⟨Tryz.f145.name,by decide,Tryz.func145.trans (congrArg some (by kernel_rfl))⟩
 f28:=Tryz.func146.trans (congrArg some (by kernel_rfl))
 f29:=Tryz.func147.trans (congrArg some (by kernel_rfl))
 f46:=⟨Tryz.f166.name,by decide,Tryz.func166.trans (congrArg some (by kernel_rfl))⟩
 f47:=Tryz.func167.trans (congrArg some (by kernel_rfl))
 f48:=Tryz.func168.trans (congrArg some (by kernel_rfl))
 f49:=⟨Tryz.f169.name,by decide,Tryz.func169.trans (congrArg some (by kernel_rfl))⟩
 f50:=⟨Tryz.f170.name,by decide,Tryz.func170.trans (congrArg some (by kernel_rfl))⟩
 f57:=⟨Tryz.f182.name,by decide,Tryz.func182.trans (congrArg some (by kernel_rfl))⟩
 t0:=Tryz.underlying0
 a0:=Tryz.isAgg0
 z0:=Tryz.sizeOf0
 v0:=Tryz.zeroValue0
 t3:=Tryz.underlying3
 a3:=Tryz.isAgg3
 z3:=Tryz.sizeOf3
 v3:=Tryz.zeroValue3
 t4:=Tryz.underlying4
 a4:=Tryz.isAgg4
 z4:=Tryz.sizeOf4
 v4:=Tryz.zeroValue4
 t5:=Tryz.underlying5
 a5:=Tryz.isAgg5
 z5:=Tryz.sizeOf5
 v5:=Tryz.zeroValue5
 t9:=Tryz.underlying9
 a9:=Tryz.isAgg9
 z9:=Tryz.sizeOf9
 v9:=Tryz.zeroValue9
 t22:=Tryz.underlying32
 a22:=Tryz.isAgg32
 z22:=Tryz.sizeOf32
 v22:=Tryz.zeroValue32
 t25:=Tryz.underlying80
 a25:=Tryz.isAgg80
 z25:=Tryz.sizeOf80
 v25:=Tryz.zeroValue80
 t39:=Tryz.underlying166
 a39:=Tryz.isAgg166
 z39:=Tryz.sizeOf166
 v39:=Tryz.zeroValue166
 t45:=Tryz.underlying195
 a45:=Tryz.isAgg195
 z45:=Tryz.sizeOf195
 v45:=Tryz.zeroValue195
 t46:=Tryz.underlying196
 a46:=Tryz.isAgg196
 z46:=Tryz.sizeOf196
 v46:=Tryz.zeroValue196
 t50:=Tryz.underlying147
 a50:=Tryz.isAgg147
 z50:=Tryz.sizeOf147
 v50:=Tryz.zeroValue147
 t53:=Tryz.underlying202
 a53:=Tryz.isAgg202
 z53:=Tryz.sizeOf202
 v53:=Tryz.zeroValue202
 t55:=Tryz.underlying204
 a55:=Tryz.isAgg204
 z55:=Tryz.sizeOf204
 v55:=Tryz.zeroValue204
 t66:=Tryz.underlying215
 a66:=Tryz.isAgg215
 z66:=Tryz.sizeOf215
 v66:=Tryz.zeroValue215
 t70:=Tryz.underlying219
 a70:=Tryz.isAgg219
 z70:=Tryz.sizeOf219
 v70:=Tryz.zeroValue219
 t76:=Tryz.underlying227
 a76:=Tryz.isAgg227
 z76:=Tryz.sizeOf227
 v76:=Tryz.zeroValue227
 t77:=Tryz.underlying228
 a77:=Tryz.isAgg228
 z77:=Tryz.sizeOf228
 v77:=Tryz.zeroValue228}
end Go.Proofs
end
