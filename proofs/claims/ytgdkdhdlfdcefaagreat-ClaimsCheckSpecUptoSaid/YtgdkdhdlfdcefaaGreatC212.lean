/- Part of the proof that the law ClaimsCheckSpec returns true and leaves its arguments as they were, for all arguments of bulk at most 1048576 (the Upto form). -/
import Derived.Test.YtgdkdhdlfdcefaaGreatC211
import Derived.Test.YtgdkdhdlfdcefaaGreatC208
import Derived.Test.YtgdkdhdlfdcefaaGreatC210
import Derived.Test.YtgdkdhdlfdcefaaGreatC209
set_option linter.all false
set_option maxHeartbeats 4000000
section
namespace Go.Sx
open Go.Proofs
set_option maxRecDepth 100000
set_option linter.unusedSimpArgs false
theorem JL {p:Prop}(h:p:=by(first|done|(repeat' (first|with_reducible refine And.intro ?_ ?_|((with_reducible show _≠_);first|assumption|omega|(simp_all [bE,bM];done) |grind) |with_reducible intro _)) <;>(first|done|with_reducible exact Empty.elim ‹Empty› |with_reducible assumption|rfl|omega|assumption|decide|exact fk [0,1,7] |exact fk [0,1,2] |exact czl|(simp only[*,cond_true,cond_false,Bool.not_true,Bool.not_false,go_sem,Nat.reduceBEq,Nat.reduceLeDiff,Nat.reduceLT,decide_true,Nat.reduceAdd,Nat.reduceSub,Nat.reduceMul,Int.reduceLE,Int.reduceLT,Int.reduceToNat,Int.reduceNeg,reduceCtorEq];(repeat' (first|with_reducible refine And.intro ?_ ?_|((with_reducible show _≠_);first|assumption|omega|(simp_all [bE,bM];done) |grind) |with_reducible intro _)) <;>(first|done|assumption|rfl|omega|decide|exact fk [0,1,7] |exact fk [0,1,2] |(simp_all [bE,bM];done))) |(simp_all [okI,bE,bM];done) |(simp_all [bE,bM];(first|done|exact fk2 [0,1,7] |exact fk2 [0,1,2])) |exact fk2 [0,1,7] |exact fk2 [0,1,2]))):p:=h
theorem xN {p:Prop}(h:p:=by(first|done|(repeat' (first|with_reducible refine And.intro ?_ ?_|((with_reducible show _≠_);first|assumption|omega|(simp_all [bE,bM];done) |grind) |with_reducible intro _)) <;>(first|done|with_reducible exact Empty.elim ‹Empty› |with_reducible assumption|rfl|omega|assumption|decide|exact fk [0,1,2,3,4,5,6,12] |exact fk [0,1,2,3,4,5,6,7] |exact czl|(simp only[*,cond_true,cond_false,Bool.not_true,Bool.not_false,go_sem,Nat.reduceBEq,Nat.reduceLeDiff,Nat.reduceLT,decide_true,Nat.reduceAdd,Nat.reduceSub,Nat.reduceMul,Int.reduceLE,Int.reduceLT,Int.reduceToNat,Int.reduceNeg,reduceCtorEq];(repeat' (first|with_reducible refine And.intro ?_ ?_|((with_reducible show _≠_);first|assumption|omega|(simp_all [bE,bM];done) |grind) |with_reducible intro _)) <;>(first|done|assumption|rfl|omega|decide|exact fk [0,1,2,3,4,5,6,12] |exact fk [0,1,2,3,4,5,6,7] |(simp_all [bE,bM];done))) |(simp_all [okI,bE,bM];done) |(simp_all [bE,bM];(first|done|exact fk2 [0,1,2,3,4,5,6,12] |exact fk2 [0,1,2,3,4,5,6,7])) |exact fk2 [0,1,2,3,4,5,6,12] |exact fk2 [0,1,2,3,4,5,6,7]))):p:=h
theorem CN {p:Prop}(h:p:=by(first|done|(repeat' (first|with_reducible refine And.intro ?_ ?_|((with_reducible show _≠_);first|assumption|omega|(simp_all [bE,bM];done) |grind) |with_reducible intro _)) <;>(first|done|with_reducible exact Empty.elim ‹Empty› |with_reducible assumption|rfl|omega|assumption|decide|exact fk [0,1,5] |exact fk [0,1,2] |exact czl|(simp only[*,cond_true,cond_false,Bool.not_true,Bool.not_false,go_sem,Nat.reduceBEq,Nat.reduceLeDiff,Nat.reduceLT,decide_true,Nat.reduceAdd,Nat.reduceSub,Nat.reduceMul,Int.reduceLE,Int.reduceLT,Int.reduceToNat,Int.reduceNeg,reduceCtorEq];(repeat' (first|with_reducible refine And.intro ?_ ?_|((with_reducible show _≠_);first|assumption|omega|(simp_all [bE,bM];done) |grind) |with_reducible intro _)) <;>(first|done|assumption|rfl|omega|decide|exact fk [0,1,5] |exact fk [0,1,2] |(simp_all [bE,bM];done))) |(simp_all [okI,bE,bM];done) |(simp_all [bE,bM];(first|done|exact fk2 [0,1,5] |exact fk2 [0,1,2])) |exact fk2 [0,1,5] |exact fk2 [0,1,2]))):p:=h
theorem JM {p:Prop}(h:p:=by simp only[go_sem,Nat.reduceBEq,Nat.reduceLeDiff,Nat.reduceLT,decide_true,Nat.reduceAdd,Nat.reduceSub,Nat.reduceMul,Int.reduceLE,Int.reduceLT,Int.reduceToNat,Int.reduceNeg,reduceCtorEq];all_goals exact JL):p:=h
theorem CO {p:Prop}(h:p:=by simp only[go_sem,Nat.reduceBEq,Nat.reduceLeDiff,Nat.reduceLT,decide_true,Nat.reduceAdd,Nat.reduceSub,Nat.reduceMul,Int.reduceLE,Int.reduceLT,Int.reduceToNat,Int.reduceNeg,reduceCtorEq,hc,hw];all_goals exact CN):p:=h
theorem CP {p:Prop}(h:p:=by simp only[go_sem,Nat.reduceBEq,Nat.reduceLeDiff,Nat.reduceLT,decide_true,Nat.reduceAdd,Nat.reduceSub,Nat.reduceMul,Int.reduceLE,Int.reduceLT,Int.reduceToNat,Int.reduceNeg,reduceCtorEq,hc];all_goals exact CN):p:=h
@[go_sem] def dS (a0:District)(a1:List Deed)(a4:Int)(s_0:List ClaimsFound×Int)(z_1:Claim)(s_1:List ClaimsFound):Empty⊕(List ClaimsFound):=(bif(decide ((aT ((db a0 ((a0.farms.getD (Int.toNat z_1.farm) (default:Farm)).reach)).1) (a_ a0 s_0.2) z_1)≥0))then .inr (s_1++([({ claim:=z_1,reach:=(((db a0 ((a0.farms.getD (Int.toNat z_1.farm) (default:Farm)).reach)).1).getD (Int.toNat (aT ((db a0 ((a0.farms.getD (Int.toNat z_1.farm) (default:Farm)).reach)).1) (a_ a0 s_0.2) z_1)) (0:Int))}:ClaimsFound)]))else .inr (s_1++([({ claim:=z_1,reach:=(-1)}:ClaimsFound)])))
def eI (a0:District)(a1:List Deed)(a4:Int)(s_0:List ClaimsFound×Int)(z_1:Claim)(s_1:List ClaimsFound):Prop:=((0≤z_1.farm∧z_1.farm< (a0.farms.length:Int))∧((kK a0 ((a0.farms.getD (Int.toNat z_1.farm) (default:Farm)).reach))∧(((decide ((aT ((db a0 ((a0.farms.getD (Int.toNat z_1.farm) (default:Farm)).reach)).1) (a_ a0 s_0.2) z_1)≥0))=true→((0≤(aT ((db a0 ((a0.farms.getD (Int.toNat z_1.farm) (default:Farm)).reach)).1) (a_ a0 s_0.2) z_1)∧(aT ((db a0 ((a0.farms.getD (Int.toNat z_1.farm) (default:Farm)).reach)).1) (a_ a0 s_0.2) z_1) < (((db a0 ((a0.farms.getD (Int.toNat z_1.farm) (default:Farm)).reach)).1).length:Int))∧((s_1++([({ claim:=z_1,reach:=(((db a0 ((a0.farms.getD (Int.toNat z_1.farm) (default:Farm)).reach)).1).getD (Int.toNat (aT ((db a0 ((a0.farms.getD (Int.toNat z_1.farm) (default:Farm)).reach)).1) (a_ a0 s_0.2) z_1)) (0:Int))}:ClaimsFound)])).length*48≤fG)))∧((decide ((aT ((db a0 ((a0.farms.getD (Int.toNat z_1.farm) (default:Farm)).reach)).1) (a_ a0 s_0.2) z_1)≥0))=false→((s_1++([({ claim:=z_1,reach:=(-1)}:ClaimsFound)])).length*48≤fG)))))
@[go_sem] def et (a0:District)(a1:List Deed)(a3:Int)(a4:Int)(k_0:Nat)(s_0:List ClaimsFound×Int):(List ClaimsFound)⊕(List ClaimsFound×Int):=(bif(decide (s_0.2≤a3))then(match dV (dS a0 a1 a4 s_0) (dF a0 a1 s_0.2 a4) s_0.1 with| .inl x=>x.elim| .inr s_1=>.inr (s_1,(IntKind.i64.wrap (s_0.2+1))))else .inl s_0.1)
def gB (a0:District)(a1:List Deed)(a3:Int)(a4:Int)(k_0:Nat)(s_0:List ClaimsFound×Int):Prop:=((decide (s_0.2≤a3))=true→((gA a0 a1 s_0.2 a4 ((dF a0 a1 s_0.2 a4).map uv))∧okL (dS a0 a1 a4 s_0) (eI a0 a1 a4 s_0) (dF a0 a1 s_0.2 a4) s_0.1))
def aC (a0:District)(a1:List Deed)(a2:Int)(a3:Int)(a4:Int):List ClaimsFound×Int:=(bif((aN a0 a1) !=0)then([],(aN a0 a1))else(bif(((((decide (a2<0)) ||(decide (a2 > a3))) ||(decide (a3≥a0.hours))) ||(decide (a4<0))) ||(decide (a4 > 1048576)))then([],1)else(bif(decide ((IntKind.i64.wrap ((IntKind.i64.wrap ((IntKind.i64.wrap (a3 - a2))+1))*(a0.rights.length:Int))) > 4096))then([],2)else(match an (et a0 a1 a3 a4) 4098 0 ([],a2)with| .inl x_0_0=>((srt dI x_0_0),0) | .inr s_0=>default))))
def iD (a0:District)(a1:List Deed)(a2:Int)(a3:Int)(a4:Int):Prop:=((fT a0 a1)∧(((aN a0 a1) !=0)=false→((((((decide (a2<0)) ||(decide (a2 > a3))) ||(decide (a3≥a0.hours))) ||(decide (a4<0))) ||(decide (a4 > 1048576)))=false→(a0.rights.length≤bp→((decide ((IntKind.i64.wrap ((IntKind.i64.wrap ((IntKind.i64.wrap (a3 - a2))+1))*(a0.rights.length:Int))) > 4096))=false→(okI (et a0 a1 a3 a4) (gB a0 a1 a3 a4) 4098 0 ([],a2)∧(∀ z_,an (et a0 a1 a3 a4) 4098 0 ([],a2)≠ .inr z_)∧(∀ x_0_0,an (et a0 a1 a3 a4) 4098 0 ([],a2)=.inl x_0_0→(apart dI x_0_0))))))))
@[go_sem] def oJ:List SV→Option Con:=(pD .district fun a0=>(pR .deed fun a1=>(pI fun a2=>(pI fun a3=>(pI fun a4=>(pE (.det (iD a0 a1 a2 a3 a4) (.tup [.nw .claimsFound ((aC a0 a1 a2 a3 a4).1),.v (.int .i64 ((aC a0 a1 a2 a3 a4).2))]))))))))
theorem rC:FnOk Tryz.prog 29 oJ:=by
 have hG:ConsOk Tryz.prog (mkG [(26,fun l=>ko (dp [.st .district,.sl .deed] l)),(46,fun l=>rt (dp [.st .district,.o] l)),(50,fun l=>pJ (dp [.st .district,.o] l)),(51,fun l=>rB (dp [.st .district,.sl .deed,.o,.o] l)),(52,fun l=>cp (dp [.sl .int,.o] l))] [(55,qh)]):=aw (cgc (ni.norm [.st .district,.sl .deed]) (cgc (xG.norm [.st .district,.o]) (cgc (vn.norm [.st .district,.o]) (cgc (xM.norm [.st .district,.sl .deed,.o,.o]) (cgc (lG.norm [.sl .int,.o]) cg0))))) (cgc A0 cg0)
 refine oC [(.cell 10 77,.claimsFound)] mixed am hG (fn:=Tryz.f29) (c:=ae Tryz.f29) (by kernel_rfl) (by kernel_rfl) (by kernel_rfl) (by kernel_rfl) (aY fun a0=>(dW fun a1=>(b_ fun a2=>(b_ fun a3=>(b_ fun a4=>(aF (fun hp=>?_)))))))
 dsimp only[aD]at hp
 unfold iD at hp
 refine⟨Nat.le_of_ble_eq_true rfl,(fun id st=>bif Nat.beq id 0 then some (LCV (ρ:=(List ClaimsFound)) (σ:=(List ClaimsFound×Int)) 2 [.cell 1 0 (.row .claimsFound ([]))] [0,1,2] (fun k_0 s_0=>⟨[(1,.rs .deed a1),(3,.v (.int .i64 a3)),(4,.v (.int .i64 a4)),(5,.ptr 0 0),(10,.ptr 1 0),(12,.v (.int .i64 s_0.2))],[.cells (cellsOf .district a0),.cells [.os 2],.row .claimsFound s_0.1]⟩) (et a0 a1 a3 a4) (gB a0 a1 a3 a4) 4098 ([],a2) (fun _=>.normal) (fun x_0_0=>⟨[(10,.ptr 1 0)],[.dead,.cells [.os 2],.row .claimsFound x_0_0]⟩) st)else none),?_,?_⟩
 ·unfold ae Tryz.f29
  simp only[al,true_and,and_true]
  ·refine fc mixed am hG (by kernel_rfl) (fun _=>rfl) fun k_0 s_0 hq0=>⟨(fun id st=>bif Nat.beq id 2 then some (LC (ρ:=Empty) (σ:=List ClaimsFound) (lk 1 st.t=.rs .deed a1∧lk 3 st.t=.v (.int .i64 a3)∧lk 4 st.t=.v (.int .i64 a4)∧lk 5 st.t=.ptr 0 0∧lk 10 st.t=.ptr 1 0∧lk 12 st.t=.v (.int .i64 s_0.2)∧lk 13 st.t=.ptr 6 0∧lk 68 st.t=.fn 87 [] [.ep (cellsOf .district a0) 0,.ep [.rs .deed a1] 0,.ep [.v (.int .i64 s_0.2)] 0,.ep [.v (.int .i64 a4)] 0]∧st.h=[.cells (cellsOf .district a0),.cells [.os 2],.row .claimsFound s_0.1,.mp .int .int ((a_ a0 s_0.2).owners) none,.mp .claimsUse .bool ((a_ a0 s_0.2).owned) none,.mp .claimsUse .bool ((a_ a0 s_0.2).eased) none,.cells [.os 3,.os 4,.os 5]]∧gA a0 a1 s_0.2 a4 ((dF a0 a1 s_0.2 a4).map uv)∧okL (dS a0 a1 a4 s_0) (eI a0 a1 a4 s_0) (dF a0 a1 s_0.2 a4) s_0.1) (dV (dS a0 a1 a4 s_0) (dF a0 a1 s_0.2 a4) s_0.1) (fun x=>x.elim) (fun x=>x.elim) (fun s_1=>⟨[(1,.rs .deed a1),(3,.v (.int .i64 a3)),(4,.v (.int .i64 a4)),(5,.ptr 0 0),(10,.ptr 1 0),(12,.v (.int .i64 s_0.2)),(13,.ptr 6 0)],[.cells (cellsOf .district a0),.cells [.os 7],.dead,.mp .int .int ((a_ a0 s_0.2).owners) none,.mp .claimsUse .bool ((a_ a0 s_0.2).owned) none,.mp .claimsUse .bool ((a_ a0 s_0.2).eased) none,.cells [.os 3,.os 4,.os 5],.row .claimsFound s_1]⟩))else none),?_,?_⟩
   ·simp only[al,true_and,and_true]
    ·refine uc mixed am hG (by decide) (by decide) (by kernel_rfl) (by kernel_rfl) fun st lc hC hp=>?_
     simp only[go_sem,Nat.reduceBEq,Option.some.injEq]at hC
     subst hC
     obtain⟨t,h⟩:=st
     dsimp only[LC]at hp
     obtain⟨e1_0,e1_1,e1_2,e1_3,e1_4,e1_5,e1_6,e1_7,rfl,hb1,hok1⟩:=hp
     refine⟨87,[.ep (cellsOf .district a0) 0,.ep [.rs .deed a1] 0,.ep [.v (.int .i64 s_0.2)] 0,.ep [.v (.int .i64 a4)] 0],Claim,_,_,(dF a0 a1 s_0.2 a4),uv,(dS a0 a1 a4 s_0),(eI a0 a1 a4 s_0),_,s_0.1,_,_,_,[(1,.rs .deed a1),(3,.v (.int .i64 a3)),(4,.v (.int .i64 a4)),(5,.ptr 0 0),(10,.ptr 1 0),(12,.v (.int .i64 s_0.2)),(13,.ptr 6 0)],(fun s_1=>[.cells (cellsOf .district a0),.cells [.os 7],.dead,.mp .int .int ((a_ a0 s_0.2).owners) none,.mp .claimsUse .bool ((a_ a0 s_0.2).owned) none,.mp .claimsUse .bool ((a_ a0 s_0.2).eased) none,.cells [.os 3,.os 4,.os 5],.row .claimsFound s_1]),(fun x=>x.elim),[0,1,2,3,4,5,6,2],?_,rfl,hok1,Nat.le_of_ble_eq_true rfl,?_,uw a0 a1 s_0.2 a4 _ hb1,fun z_1 s_1 hq1=>⟨rfl,L0,fun l=>?_,fun l=>?_,?_⟩,fun s_1=>?_,fun y=>?_⟩
     ·simp only[go_sem,e1_0,e1_1,e1_2,e1_3,e1_4,e1_5,e1_6,e1_7]
     ·simp only[go_sem,Nat.reduceBEq,Nat.reduceLeDiff,Nat.reduceLT,decide_true,Nat.reduceAdd,Nat.reduceSub,Nat.reduceMul,Int.reduceLE,Int.reduceLT,Int.reduceToNat,Int.reduceNeg,reduceCtorEq,pz,ji,List.flatMap_cons,List.flatMap_nil,List.nil_append,List.append_nil,List.map_nil,e1_0,e1_1,e1_2,e1_3,e1_4,e1_5,e1_6,e1_7]
      all_goals (first|done|decide|(repeat' (first|refine And.intro ?_ ?_|rfl|decide)))
     ·simp only[al,and_self,true_and,and_true]
     ·simp only[al,and_self,true_and,and_true]
     ·unfold eI at hq1
      simp only[go_sem,Nat.reduceBEq,Nat.reduceLeDiff,Nat.reduceLT,decide_true,Nat.reduceAdd,Nat.reduceSub,Nat.reduceMul,Int.reduceLE,Int.reduceLT,Int.reduceToNat,Int.reduceNeg,reduceCtorEq,cp,dS,psT,uv,List.cons_append,List.nil_append]
      all_goals exact xN
     ·simp only[go_sem,Nat.reduceBEq,Nat.reduceLeDiff,Nat.reduceLT,decide_true,Nat.reduceAdd,Nat.reduceSub,Nat.reduceMul,Int.reduceLE,Int.reduceLT,Int.reduceToNat,Int.reduceNeg,reduceCtorEq,cp]
      all_goals exact xN
     ·simp only[go_sem,Nat.reduceBEq,Nat.reduceLeDiff,Nat.reduceLT,decide_true,Nat.reduceAdd,Nat.reduceSub,Nat.reduceMul,Int.reduceLE,Int.reduceLT,Int.reduceToNat,Int.reduceNeg,reduceCtorEq,cp]
      all_goals exact xN
   ·unfold gB at hq0
    exact JM
 ·unfold ae Tryz.f29
  try unfold aC
  simp only[go_sem,Nat.reduceBEq,Nat.reduceLeDiff,Nat.reduceLT,decide_true,Nat.reduceAdd,Nat.reduceSub,Nat.reduceMul,Int.reduceLE,Int.reduceLT,Int.reduceToNat,Int.reduceNeg,reduceCtorEq,cp]
  all_goals exact cl
@[go_sem] def jT (d:District)(l_:List Deed)(fr:Int)(to:Int)(known:Int)(k_0:Nat)(s_0:List Claim):Empty⊕(List Claim):=(bif(decide ((((aC d l_ fr to known).1).getD k_0 (default:ClaimsFound)).reach<0))then .inr (s_0++([(((aC d l_ fr to known).1).getD k_0 (default:ClaimsFound)).claim]))else .inr s_0)
def mM (d:District)(l_:List Deed)(fr:Int)(to:Int)(known:Int)(k_0:Nat)(s_0:List Claim):Prop:=((decide ((((aC d l_ fr to known).1).getD k_0 (default:ClaimsFound)).reach<0))=true→((s_0++([(((aC d l_ fr to known).1).getD k_0 (default:ClaimsFound)).claim])).length*40≤fG))
def dM (d:District)(l_:List Deed)(fr:Int)(to:Int)(known:Int):List Claim×Int:=(bif((aC d l_ fr to known).2 !=0)then([],(aC d l_ fr to known).2)else(match an (jT d l_ fr to known) (((aC d l_ fr to known).1).length) 0 ([])with| .inl x=>x.elim| .inr s_0=>(bif(decide ((s_0.length:Int) > 4096))then([],2)else(s_0,0))))
def io (d:District)(l_:List Deed)(fr:Int)(to:Int)(known:Int):Prop:=((iD d l_ fr to known)∧(((aC d l_ fr to known).2 !=0)=false→(((aC d l_ fr to known).1).length≤bp→okI (jT d l_ fr to known) (mM d l_ fr to known) (((aC d l_ fr to known).1).length) 0 ([]))))
@[go_sem] def qi:List SV→Option Con:=(pD .district fun d=>(pR .deed fun l_=>(pI fun fr=>(pI fun to=>(pI fun known=>(pE (.det (io d l_ fr to known) (.tup [.nw .claim ((dM d l_ fr to known).1),.v (.int .i64 ((dM d l_ fr to known).2))]))))))))
theorem tw:FnOk Tryz.prog 12 qi:=by
 have hG:ConsOk Tryz.prog (mkG [(29,fun l=>oJ (dp [.st .district,.sl .deed,.o,.o,.o] l))] []):=aw (cgc (rC.norm [.st .district,.sl .deed,.o,.o,.o]) cg0) cg0
 refine oC [(.tmp 10,.claim)] mixed am hG (fn:=Tryz.f12) (c:=ae Tryz.f12) (by kernel_rfl) (by kernel_rfl) (by kernel_rfl) (by kernel_rfl) (aY fun d=>(dW fun l_=>(b_ fun fr=>(b_ fun to=>(b_ fun known=>(aF (fun hp=>?_)))))))
 dsimp only[aD]at hp
 unfold io at hp
 refine⟨Nat.le_of_ble_eq_true rfl,(fun id st=>bif Nat.beq id 0 then some (LCR (ρ:=Empty) (σ:=(List Claim)) 2 [.slot 10 (.row .claim ([]))] [0,1,2] (fun k_0 s_0=>⟨[(10,.os 2),(27,.os 1),(28,.v (.int .i64 (((aC d l_ fr to known).1).length:Int))),(29,.v (.int .i64 (k_0:Int)))],[.dead,.row .claimsFound ((aC d l_ fr to known).1),.row .claim s_0]⟩) (jT d l_ fr to known) (mM d l_ fr to known) (((aC d l_ fr to known).1).length) ([]) (((aC d l_ fr to known).1).length≤bp) ((·.elim)) ((·.elim)) st)else none),?_,?_⟩
 ·unfold ae Tryz.f12
  simp only[al,true_and,and_true]
  ·refine dy mixed am hG (by kernel_rfl) (fun _=>rfl) (((aC d l_ fr to known).1).length:Int) rfl iS (fun hb0 k_0 s_0 hlt0 hq0 hw hc=>⟨L0,ah _,?_⟩) (fun hb0 s_0 hc=>?_)
   ·unfold mM at hq0
    try simp only[hw,Int.toNat_natCast]at hq0
    exact CO
   ·exact CP
 ·unfold ae Tryz.f12
  try unfold dM
  simp only[go_sem,Nat.reduceBEq,Nat.reduceLeDiff,Nat.reduceLT,decide_true,Nat.reduceAdd,Nat.reduceSub,Nat.reduceMul,Int.reduceLE,Int.reduceLT,Int.reduceToNat,Int.reduceNeg,reduceCtorEq]
  all_goals exact cl
@[go_sem] def fF (d:District)(l_:List Deed)(fr:Int)(to:Int)(known:Int)(k_0:Nat)(s_0:List Block):Empty⊕(List Block):=(bif(decide ((((aC d l_ fr to known).1).getD k_0 (default:ClaimsFound)).reach≥0))then .inr (s_0++([({ right:=(((aC d l_ fr to known).1).getD k_0 (default:ClaimsFound)).claim.right,farm:=(((aC d l_ fr to known).1).getD k_0 (default:ClaimsFound)).claim.farm,hour:=(((aC d l_ fr to known).1).getD k_0 (default:ClaimsFound)).claim.hour,reach:=(((aC d l_ fr to known).1).getD k_0 (default:ClaimsFound)).reach}:Block)]))else .inr s_0)
def iM (d:District)(l_:List Deed)(fr:Int)(to:Int)(known:Int)(k_0:Nat)(s_0:List Block):Prop:=((decide ((((aC d l_ fr to known).1).getD k_0 (default:ClaimsFound)).reach≥0))=true→((s_0++([({ right:=(((aC d l_ fr to known).1).getD k_0 (default:ClaimsFound)).claim.right,farm:=(((aC d l_ fr to known).1).getD k_0 (default:ClaimsFound)).claim.farm,hour:=(((aC d l_ fr to known).1).getD k_0 (default:ClaimsFound)).claim.hour,reach:=(((aC d l_ fr to known).1).getD k_0 (default:ClaimsFound)).reach}:Block)])).length*32≤fG))
def d7 (d:District)(l_:List Deed)(fr:Int)(to:Int)(known:Int):List Block×Int:=(bif((aC d l_ fr to known).2 !=0)then([],(aC d l_ fr to known).2)else(match an (fF d l_ fr to known) (((aC d l_ fr to known).1).length) 0 ([])with| .inl x=>x.elim| .inr s_0=>(bif(decide ((s_0.length:Int) > 4096))then([],2)else(s_0,0))))
def fV (d:District)(l_:List Deed)(fr:Int)(to:Int)(known:Int):Prop:=((iD d l_ fr to known)∧(((aC d l_ fr to known).2 !=0)=false→(((aC d l_ fr to known).1).length≤bp→okI (fF d l_ fr to known) (iM d l_ fr to known) (((aC d l_ fr to known).1).length) 0 ([]))))
@[go_sem] def od:List SV→Option Con:=(pD .district fun d=>(pR .deed fun l_=>(pI fun fr=>(pI fun to=>(pI fun known=>(pE (.det (fV d l_ fr to known) (.tup [.nw .block ((d7 d l_ fr to known).1),.v (.int .i64 ((d7 d l_ fr to known).2))]))))))))
theorem tx:FnOk Tryz.prog 14 od:=by
 have hG:ConsOk Tryz.prog (mkG [(29,fun l=>oJ (dp [.st .district,.sl .deed,.o,.o,.o] l))] []):=aw (cgc (rC.norm [.st .district,.sl .deed,.o,.o,.o]) cg0) cg0
 refine oC [(.tmp 10,.block)] mixed am hG (fn:=Tryz.f14) (c:=ae Tryz.f14) (by kernel_rfl) (by kernel_rfl) (by kernel_rfl) (by kernel_rfl) (aY fun d=>(dW fun l_=>(b_ fun fr=>(b_ fun to=>(b_ fun known=>(aF (fun hp=>?_)))))))
 dsimp only[aD]at hp
 unfold fV at hp
 refine⟨Nat.le_of_ble_eq_true rfl,(fun id st=>bif Nat.beq id 0 then some (LCR (ρ:=Empty) (σ:=(List Block)) 2 [.slot 10 (.row .block ([]))] [0,1,2] (fun k_0 s_0=>⟨[(10,.os 2),(27,.os 1),(28,.v (.int .i64 (((aC d l_ fr to known).1).length:Int))),(29,.v (.int .i64 (k_0:Int)))],[.dead,.row .claimsFound ((aC d l_ fr to known).1),.row .block s_0]⟩) (fF d l_ fr to known) (iM d l_ fr to known) (((aC d l_ fr to known).1).length) ([]) (((aC d l_ fr to known).1).length≤bp) ((·.elim)) ((·.elim)) st)else none),?_,?_⟩
 ·unfold ae Tryz.f14
  simp only[al,true_and,and_true]
  ·refine dy mixed am hG (by kernel_rfl) (fun _=>rfl) (((aC d l_ fr to known).1).length:Int) rfl iS (fun hb0 k_0 s_0 hlt0 hq0 hw hc=>⟨L0,ah _,?_⟩) (fun hb0 s_0 hc=>?_)
   ·unfold iM at hq0
    try simp only[hw,Int.toNat_natCast]at hq0
    exact CO
   ·exact CP
 ·unfold ae Tryz.f14
  try unfold d7
  simp only[go_sem,Nat.reduceBEq,Nat.reduceLeDiff,Nat.reduceLT,decide_true,Nat.reduceAdd,Nat.reduceSub,Nat.reduceMul,Int.reduceLE,Int.reduceLT,Int.reduceToNat,Int.reduceNeg,reduceCtorEq]
  all_goals exact cl
end Go.Sx
end
section
namespace Go.Sx
open Go.Proofs
theorem vB {ρ σ:Type}{step:Nat→σ→ρ⊕σ}{p:Nat→σ→Prop}(m:σ→Nat)(J:σ→Prop)(Q:ρ→Prop)(h:∀ k s,J s→p k s∧((∃ r,step k s=.inl r∧Q r)∨∃ s',step k s=.inr s'∧m s'<m s∧J s')):∀ (n i:Nat) (s:σ),J s→m s<n→okI step p n i s∧∃ r,an step n i s=.inl r∧Q r
 |0,_,_,_,hm=>absurd hm (Nat.not_lt_zero _)
 |n+1,i,s,hJ,hm=>by
  obtain⟨h1,h2⟩:=h i s hJ
  rcases h2 with⟨r,e,hq⟩ | ⟨s',e,hlt,hJ'⟩
  ·refine⟨⟨h1,fun s'' e'=>?_⟩,r,?_,hq⟩
   ·rw[e]at e';cases e'
   ·simp only[an,e]
  ·obtain⟨q1,q2⟩:=vB m J Q h n (i+1) s' hJ' (by omega)
   refine⟨⟨h1,fun s'' e'=>?_⟩,?_⟩
   ·rw[e]at e';cases e';exact q1
   ·simp only[an,e];exact q2
theorem u4 {ρ σ:Type}{x:ρ⊕σ}{Q:ρ→Prop}(h:∃ r,x=.inl r∧Q r):∀ z,x≠ .inr z:=fun z e=>by
 obtain⟨r,e1,_⟩:=h
 rw[e1]at e;cases e
theorem FI (a b:Deed):decide (cq a b<0)=decide (a.at_<b.at_):=by
 unfold cq
 rw[nh]
 by_cases h:a.at_<b.at_
 ·simp[h]
 ·by_cases h2:a.at_ > b.at_ <;>simp[h,h2]
theorem je {α:Type}(A:List α)(x d:α)(T:List α){i:Nat}(h:i=A.length):(A++x::T).getD i d=x:=by
 subst h;simp[List.getD_eq_getElem?_getD]
theorem oK {α:Type}(A:List α)(x y:α)(T:List α){i:Nat}(h:i=A.length):(A++x::T).set i y=A++y::T:=by
 subst h;simp
def SameF (l l':List Deed):Prop:= ∀ t:Int,l.filter (fun x=>x.at_==t)=l'.filter fun x=>x.at_==t
theorem SameF.refl (l:List Deed):SameF l l:=fun _=>rfl
theorem SameF.trans {a b c:List Deed}(h1:SameF a b)(h2:SameF b c):SameF a c:=fun t=>(h1 t).trans (h2 t)
theorem SameF.app {a b c d:List Deed}(h1:SameF a b)(h2:SameF c d):SameF (a++c) (b++d):=fun t=>by rw[List.filter_append,List.filter_append,h1 t,h2 t]
theorem SameF.swap {a b:List Deed}(h:∀ x∈a,∀ y∈b,x.at_≠y.at_):SameF (a++b) (b++a):=fun t=>by
 rw[List.filter_append,List.filter_append]
 by_cases ha:a.filter (fun x=>x.at_==t)=[]
 ·rw[ha];simp
 ·have hb:b.filter (fun x=>x.at_==t)=[]:=by
   rw[List.filter_eq_nil_iff]
   intro y hy hyt
   obtain⟨x,hx⟩:=List.exists_mem_of_ne_nil _ ha
   rw[List.mem_filter]at hx
   have e1:x.at_=t:=by simpa using hx.2
   have e2:y.at_=t:=by simpa using hyt
   exact h x hx.1 y hy (by rw[e1,e2])
  rw[hb];simp
def Srt (l:List Deed):Prop:=l.Pairwise fun x y=>x.at_≤y.at_
theorem G4 (A S R:List Deed)(x:Deed)(l_:List Deed)(hl:(A++S++x::R).length<2 ^ 62)(hfuel:(A++S++x::R).length=l_.length):
  okI (aH A.length l_) (aZ A.length l_) (l_.length+1) 0 (A++S++x::R,((A.length+S.length:Nat):Int))∧
  ∃ r,an (aH A.length l_) (l_.length+1) 0 (A++S++x::R,((A.length+S.length:Nat):Int))=.inl r∧
   ∃ S1 S2,S=S1++S2∧r=A++S1++x::(S2++R)∧(∀ y∈S2,x.at_<y.at_)∧∀ y,S1.getLast? =some y→y.at_≤x.at_:=by
 refine vB (fun s:List Deed×Int=>(s.2 - (A.length:Int)).toNat) (fun s:List Deed×Int=>∃ S1 S2,S=S1++S2∧s=(A++S1++x::(S2++R),((A.length+S1.length:Nat):Int))∧∀ y∈S2,x.at_<y.at_) (fun r=>∃ S1 S2,S=S1++S2∧r=A++S1++x::(S2++R)∧(∀ y∈S2,x.at_<y.at_)∧∀ y,S1.getLast? =some y→y.at_≤x.at_) ?_ _ _ _ ⟨S,[],by simp,by simp,by simp⟩ (by simp only[List.length_append,List.length_cons]at hl hfuel;omega)
 rintro k s ⟨S1,S2,hS,rfl,hlt⟩
 simp only[List.length_append,List.length_cons]at hl hfuel
 have hlen:S.length=S1.length+S2.length:=by rw[hS,List.length_append]
 rcases List.eq_nil_or_concat S1 with rfl| ⟨S1',y,rfl⟩
 ·unfold aZ aH
  have e:decide (((A.length+([]:List Deed).length:Nat):Int) > A.length)=false:=by simp
  refine⟨⟨fun h=>?_,fun h=>?_,fun h=>?_⟩,.inl ⟨_,?_,[],S2,hS,rfl,hlt,fun y hy=>by simp at hy⟩⟩
  ·rw[e]at h;cases h
  ·rw[e]at h;cases h
  ·rw[e]at h;cases h
  ·simp only[e,Bool.false_and,cond_false]
 ·simp only[List.concat_eq_append,List.length_append,List.length_cons,List.length_nil]at hlen ⊢
  have w:IntKind.i64.wrap (((A.length+(S1'.length+(0+1)):Nat):Int) - 1)=((A.length+S1'.length:Nat):Int):=by rw[bj (by omega) (by omega)];omega
  have e:decide (((A.length+(S1'.length+(0+1)):Nat):Int) > A.length)=true:=by rw[decide_eq_true_eq];omega
  have g1:(A++(S1'++[y])++x::(S2++R)).getD (A.length+(S1'.length+(0+1))) default=x:=je _ _ _ _ (by simp)
  have hr:A++(S1'++[y])++x::(S2++R)=(A++S1')++y::x::(S2++R):=by simp
  have g2:(A++(S1'++[y])++x::(S2++R)).getD (A.length+S1'.length) default=y:=by rw[hr];exact je _ _ _ _ (by simp)
  have hL:(A++(S1'++[y])++x::(S2++R)).length=A.length+(S1'.length+1)+(S2.length+R.length+1):=by simp;omega
  unfold aZ aH
  simp only[w,Int.toNat_natCast,g1,g2,FI,e,Bool.true_and,List.length_set,hL]
  refine⟨⟨fun _=>by omega,fun _=>by omega,fun _=>by omega⟩,?_⟩
  by_cases h:x.at_<y.at_
  ·right
   rw[decide_eq_true h,cond_true]
   refine⟨_,rfl,by simp only;omega,S1',y::S2,by rw[hS];simp,?_,fun z hz=>?_⟩
   ·rw[oK (A++(S1'++[y])) x y (S2++R) (by simp)]
    have:A++(S1'++[y])++y::(S2++R)=(A++S1')++y::y::(S2++R):=by simp
    rw[this,oK (A++S1') y x _ (by simp)]
    simp
   ·rcases List.mem_cons.1 hz with rfl|hz
    ·exact h
    ·exact hlt z hz
  ·left
   rw[decide_eq_false h,cond_false]
   exact⟨_,rfl,S1'++[y],S2,hS.trans (by simp),by simp,hlt,fun z hz=>by simp at hz;subst hz;omega⟩
end Go.Sx
end
section
namespace Go.Sx
open Go.Proofs
theorem JN {l:List Deed}{c:Int}(h:Srt l)(hl:∀ y,l.getLast? =some y→y.at_≤c):∀ z∈l,z.at_≤c:=fun z hz=>by
 rcases List.eq_nil_or_concat l with rfl| ⟨l',y,rfl⟩
 ·cases hz
 ·rw[List.concat_eq_append]at h hz hl
  have hy:=hl y (by simp)
  unfold Srt at h
  rw[List.pairwise_append]at h
  rcases List.mem_append.1 hz with hz|hz
  ·exact Int.le_trans (h.2.2 z hz y (by simp)) hy
  ·simp at hz;subst hz;exact hy
theorem Mz {S1 S2:List Deed}{x:Deed}(h:Srt (S1++S2))(h2:∀ y∈S2,x.at_<y.at_)(h1:∀ z∈S1,z.at_≤x.at_):Srt (S1++x::S2):=by
 unfold Srt at h ⊢
 rw[List.pairwise_append]at h ⊢
 refine⟨h.1,List.pairwise_cons.2 ⟨fun y hy=>Int.le_of_lt (h2 y hy),h.2.1⟩,fun z hz y hy=>?_⟩
 rcases List.mem_cons.1 hy with rfl|hy
 ·exact h1 z hz
 ·exact h.2.2 z hz y hy
theorem zB (A M R:List Deed)(hl:(A++M++R).length<2 ^ 62):
  aK A.length ((A.length+M.length:Nat):Int) (A++M++R)∧
  ∃ M',av A.length ((A.length+M.length:Nat):Int) (A++M++R)=A++M'++R∧SameF M M'∧Srt M':=by
 have hlen:(A++M++R).length=A.length+M.length+R.length:=by simp[Nat.add_assoc]
 have w0:IntKind.i64.wrap ((A.length:Int)+1)=((A.length+1:Nat):Int):=by rw[bj (by omega) (by omega)];omega
 have key:okI (aA A.length ((A.length+M.length:Nat):Int) (A++M++R)) (aO A.length ((A.length+M.length:Nat):Int) (A++M++R)) ((A++M++R).length+1) 0 (A++M++R,((A.length+1:Nat):Int))∧
   ∃ r,an (aA A.length ((A.length+M.length:Nat):Int) (A++M++R)) ((A++M++R).length+1) 0 (A++M++R,((A.length+1:Nat):Int))=.inl r∧∃ M',r=A++M'++R∧SameF M M'∧Srt M':=by
  refine vB (fun s:List Deed×Int=>(((A.length+M.length:Nat):Int) - s.2).toNat) (fun s:List Deed×Int=>(M=[]∧s=(A++M++R,((A.length+1:Nat):Int)))∨∃ S T,s=(A++S++(T++R),((A.length+S.length:Nat):Int))∧SameF M (S++T)∧Srt S∧M.length=S.length+T.length) (fun r=>∃ M',r=A++M'++R∧SameF M M'∧Srt M') ?_ _ _ _ ?_ (by simp only;omega)
  ·rintro k s (⟨rfl,rfl⟩ | ⟨S,T,rfl,hF,hS,hMl⟩)
   ·unfold aO aA
    have e:decide (((A.length+1:Nat):Int) < ((A.length+([]:List Deed).length:Nat):Int))=false:=by rw[decide_eq_false_iff_not];simp only[List.length_nil];omega
    refine⟨fun h=>?_,.inl ⟨_,?_,[],rfl,SameF.refl _,List.Pairwise.nil⟩⟩
    ·rw[e]at h;cases h
    ·simp only[e,cond_false]
   ·cases T with
    |nil=>
     unfold aO aA
     have e:decide (((A.length+S.length:Nat):Int) < ((A.length+M.length:Nat):Int))=false:=by rw[decide_eq_false_iff_not];simp only[List.length_nil]at hMl;omega
     refine⟨fun h=>?_,.inl ⟨A++S++([]++R),?_,S,by simp,by simpa using hF,hS⟩⟩
     ·rw[e]at h;cases h
     ·simp only[e,cond_false]
    |cons x T=>
     simp only[List.length_cons]at hMl
     have e:decide (((A.length+S.length:Nat):Int) < ((A.length+M.length:Nat):Int))=true:=by rw[decide_eq_true_eq];omega
     have hl2:(A++S++x::(T++R)).length=(A++M++R).length:=by simp;omega
     obtain⟨i1,r,i2,S1,S2,rfl,rfl,i3,i4⟩:=G4 A S (T++R) x (A++M++R) (by omega) hl2
     have hS1:Srt S1:=(List.pairwise_append.1 hS).1
     have w:IntKind.i64.wrap (((A.length+(S1++S2).length:Nat):Int)+1)=((A.length+(S1++x::S2).length:Nat):Int):=by
      rw[bj (by omega) (by simp only[List.length_append]at *;omega)];simp only[List.length_append,List.length_cons];omega
     unfold aO aA
     refine⟨fun _=>⟨i1,u4 (Q:=fun _=>True) ⟨_,i2,trivial⟩⟩,.inr ⟨_,?_,?_,.inr ⟨S1++x::S2,T,rfl,?_,Mz hS i3 (JN hS1 i4),by simp only[List.length_append,List.length_cons]at *;omega⟩⟩⟩
     ·simp only[e,cond_true,List.cons_append]
      rw[i2]
      simp only[w]
      simp
     ·simp only[List.length_append,List.length_cons]at *;omega
     ·refine hF.trans ?_
      have h0:SameF (S2++[x]) ([x]++S2):=SameF.swap fun y hy z hz=>by simp at hz;subst hz;have:=i3 y hy;omega
      have:=((SameF.refl S1).app h0).app (SameF.refl T)
      simpa using this
  ·cases M with
   |nil=>exact .inl ⟨rfl,rfl⟩
   |cons x T=>exact .inr ⟨[x],T,by simp,by simpa using SameF.refl _,List.pairwise_singleton _ _,by simp;omega⟩
 obtain⟨k1,r,k2,M',rfl,k3,k4⟩:=key
 unfold aK av
 rw[w0]
 refine⟨⟨k1,u4 (Q:=fun _=>True) ⟨_,k2,trivial⟩⟩,M',?_,k3,k4⟩
 rw[k2]
end Go.Sx
end
section
namespace Go.Sx
open Go.Proofs
theorem A2 (A X B Y C:List Deed)(hxy:X.length=Y.length)(hl:(A++X++B++Y++C).length<2 ^ 62):
  aL A.length ((A.length+X.length+B.length:Nat):Int) X.length (A++X++B++Y++C)∧
  aQ A.length ((A.length+X.length+B.length:Nat):Int) X.length (A++X++B++Y++C)=A++Y++B++X++C:=by
 have hlen:(A++X++B++Y++C).length=A.length+X.length+B.length+Y.length+C.length:=by simp[Nat.add_assoc]
 have step:∀ j s,0≤j→j<0+Int.toNat (X.length:Int)→(∃ X1 X2 Y1 Y2,X=X1++X2∧Y=Y1++Y2∧X1.length=j∧Y1.length=j∧s=A++Y1++X2++B++X1++Y2++C)→
   bO A.length ((A.length+X.length+B.length:Nat):Int) X.length j s∧∀ s',bB A.length ((A.length+X.length+B.length:Nat):Int) X.length j s=.inr s'→∃ X1 X2 Y1 Y2,X=X1++X2∧Y=Y1++Y2∧X1.length=j+1∧Y1.length=j+1∧s'=A++Y1++X2++B++X1++Y2++C:=by
  rintro j s _ hj ⟨X1,X2,Y1,Y2,hX,hY,h1,h2,rfl⟩
  rw[Int.toNat_natCast,Nat.zero_add]at hj
  have l1:X.length=X1.length+X2.length:=by rw[hX,List.length_append]
  have l2:Y.length=Y1.length+Y2.length:=by rw[hY,List.length_append]
  match X2,Y2,l1,l2,hX,hY with
  | [],_,l1,_,_,_=>simp at l1;omega
  |_::_,[],_,l2,_,_=>simp at l2;omega
  |x::X2,y::Y2,l1,l2,hX,hY=>
   simp only[List.length_cons]at l1 l2
   have w1:IntKind.i64.wrap ((A.length:Int)+(j:Int))=((A.length+j:Nat):Int):=by rw[bj (by omega) (by omega)];omega
   have w2:IntKind.i64.wrap (((A.length+X.length+B.length:Nat):Int)+(j:Int))=((A.length+X.length+B.length+j:Nat):Int):=by rw[bj (by omega) (by omega)];omega
   have r1:A++Y1++x::X2++B++X1++y::Y2++C=(A++Y1)++x::(X2++B++X1++y::(Y2++C)):=by simp
   have r2:A++Y1++x::X2++B++X1++y::Y2++C=(A++Y1++x::X2++B++X1)++y::(Y2++C):=by simp
   have g1:(A++Y1++x::X2++B++X1++y::Y2++C).getD (A.length+j) default=x:=by rw[r1];exact je _ _ _ _ (by simp;omega)
   have g2:(A++Y1++x::X2++B++X1++y::Y2++C).getD (A.length+X.length+B.length+j) default=y:=by rw[r2];exact je _ _ _ _ (by simp;omega)
   have hL:(A++Y1++x::X2++B++X1++y::Y2++C).length=A.length+X.length+B.length+Y.length+C.length:=by simp;omega
   unfold bO bB
   simp only[w1,w2,Int.toNat_natCast,g1,g2,List.length_set,hL]
   refine⟨by omega,fun s' e=>?_⟩
   cases e
   refine⟨X1++[x],X2,Y1++[y],Y2,by rw[hX];simp,by rw[hY];simp,by simp[h1],by simp[h2],?_⟩
   rw[r1,oK (A++Y1) x y _ (by simp;omega)]
   have r3:A++Y1++y::(X2++B++X1++y::(Y2++C))=(A++Y1++y::X2++B++X1)++y::(Y2++C):=by simp
   rw[r3,oK _ y x _ (by simp;omega)]
   simp
 have h0:∃ X1 X2 Y1 Y2,X=X1++X2∧Y=Y1++Y2∧X1.length=0∧Y1.length=0∧A++X++B++Y++C=A++Y1++X2++B++X1++Y2++C:=⟨[],X,[],Y,rfl,rfl,rfl,rfl,by simp⟩
 have hJ:=xa (fun k s=>∃ X1 X2 Y1 Y2,X=X1++X2∧Y=Y1++Y2∧X1.length=k∧Y1.length=k∧s=A++Y1++X2++B++X1++Y2++C) (Int.toNat (X.length:Int)) 0 _ h0 (fun j s a b c=>(step j s a b c).2)
 unfold aL aQ
 refine⟨⟨by omega,vL (fun k s=>∃ X1 X2 Y1 Y2,X=X1++X2∧Y=Y1++Y2∧X1.length=k∧Y1.length=k∧s=A++Y1++X2++B++X1++Y2++C) _ 0 _ h0 step⟩,?_⟩
 cases hr:an (bB A.length ((A.length+X.length+B.length:Nat):Int) X.length) (Int.toNat (X.length:Int)) 0 (A++X++B++Y++C)with
 |inl x=>exact x.elim
 |inr r=>
  obtain⟨X1,X2,Y1,Y2,rfl,rfl,h1,h2,rfl⟩:=hJ r hr
  rw[Int.toNat_natCast,Nat.zero_add]at h1 h2
  have e1:X2=[]:=List.eq_nil_of_length_eq_zero (by rw[List.length_append]at h1;omega)
  have e2:Y2=[]:=List.eq_nil_of_length_eq_zero (by rw[hxy,List.length_append]at h2;omega)
  subst e1;subst e2
  simp
end Go.Sx
end
section
namespace Go.Sx
open Go.Proofs
theorem G5 (A U V C:List Deed)(hU:U≠[])(hV:V≠[])(hl:(A++U++V++C).length<2 ^ 62):
  bg A.length ((A.length+U.length:Nat):Int) ((A.length+U.length+V.length:Nat):Int) (A++U++V++C)∧
  aq A.length ((A.length+U.length:Nat):Int) ((A.length+U.length+V.length:Nat):Int) (A++U++V++C)=A++V++U++C:=by
 have hlen:(A++U++V++C).length=A.length+U.length+V.length+C.length:=by simp[Nat.add_assoc]
 have w1:IntKind.i64.wrap (((A.length+U.length:Nat):Int) - (A.length:Int))=(U.length:Int):=by rw[bj (by omega) (by omega)];omega
 have w2:IntKind.i64.wrap (((A.length+U.length+V.length:Nat):Int) - ((A.length+U.length:Nat):Int))=(V.length:Int):=by rw[bj (by omega) (by omega)];omega
 have hm:∀ {M:Nat},M=A.length+U.length→∀ {F:List Deed},F=A++V++U++C→okI (ba A.length (M:Int) ((A.length+U.length+V.length:Nat):Int)) (b7 A.length (M:Int) ((A.length+U.length+V.length:Nat):Int)) (Int.toNat (((A.length+U.length+V.length:Nat):Int) - (A.length:Int))+1) 0 (A++U++V++C,(U.length:Int),(V.length:Int))∧
   ∃ r,an (ba A.length (M:Int) ((A.length+U.length+V.length:Nat):Int)) (Int.toNat (((A.length+U.length+V.length:Nat):Int) - (A.length:Int))+1) 0 (A++U++V++C,(U.length:Int),(V.length:Int))=.inl r∧∃ A1 U1 V1 C1,r=((U1.length:Int),A1++U1++V1++C1)∧U1.length=V1.length∧A1.length+U1.length=M∧A1++V1++U1++C1=F:=by
  intro M hM F hF
  refine vB (fun s:List Deed×Int×Int=>(s.2.1+s.2.2).toNat) (fun s:List Deed×Int×Int=>∃ A1 U1 V1 C1,s=(A1++U1++V1++C1,(U1.length:Int),(V1.length:Int))∧U1≠[]∧V1≠[]∧A1.length+U1.length=M∧A1++V1++U1++C1=F) _ ?_ _ _ _ ⟨A,U,V,C,rfl,hU,hV,hM.symm,hF.symm⟩ (by simp only;omega)
  rintro k s ⟨A1,U1,V1,C1,rfl,hU1,hV1,hM1,hF1⟩
  have hFl:A1.length+V1.length+U1.length+C1.length<2 ^ 62:=by
   have:=congrArg List.length (hF1.trans hF)
   simp only[List.length_append]at this hl
   omega
  have pU:0<U1.length:=List.length_pos_iff.2 hU1
  have pV:0<V1.length:=List.length_pos_iff.2 hV1
  unfold b7 ba
  have v1:IntKind.i64.wrap ((M:Int) - (U1.length:Int))=(A1.length:Int):=by rw[bj (by omega) (by omega)];omega
  by_cases he:U1.length=V1.length
  ·have b1:(((U1.length:Int)) !=((V1.length:Int)))=false:=by simp[he]
   refine⟨fun h=>?_,.inl ⟨_,?_,A1,U1,V1,C1,rfl,he,hM1,hF1⟩⟩
   ·simp only[b1]at h;cases h
   ·simp only[b1,cond_false]
  ·have b1:(((U1.length:Int)) !=((V1.length:Int)))=true:=by simp only[bne_iff_ne,ne_eq];omega
   by_cases hgt:V1.length<U1.length
   ·have b2:decide (((U1.length:Int)) > ((V1.length:Int)))=true:=by rw[decide_eq_true_eq];omega
    have v2:IntKind.i64.wrap ((U1.length:Int) - (V1.length:Int))=((U1.drop V1.length).length:Int):=by rw[bj (by omega) (by omega),List.length_drop];omega
    have hsp:U1=U1.take V1.length++U1.drop V1.length:=(List.take_append_drop _ _).symm
    have ht:(U1.take V1.length).length=V1.length:=by rw[List.length_take];omega
    have hd:(U1.drop V1.length).length=U1.length - V1.length:=List.length_drop
    have hsw:=A2 A1 (U1.take V1.length) (U1.drop V1.length) V1 C1 ht (by simp only[List.length_append,ht,hd];omega)
    have e1:A1++U1.take V1.length++U1.drop V1.length++V1++C1=A1++U1++V1++C1:=by rw[List.append_assoc A1,List.take_append_drop]
    have e2:((A1.length+(U1.take V1.length).length+(U1.drop V1.length).length:Nat):Int)=(M:Int):=by rw[ht,hd];omega
    rw[e1,e2,ht]at hsw
    simp only[b1,b2,v1,v2,cond_true]
    refine⟨fun _=>⟨fun _=>hsw.1,fun h=>by cases h⟩,.inr ⟨_,rfl,by simp only[hd];omega,A1++V1,U1.drop V1.length,U1.take V1.length,C1,?_,fun h=>?_,fun h=>?_,?_,?_⟩⟩
    ·rw[hsw.2,ht]
    ·rw[h]at hd;simp at hd;omega
    ·rw[h]at ht;simp at ht;omega
    ·rw[List.length_append,hd];omega
    ·rw[←hF1,List.append_assoc (A1++V1),List.take_append_drop]
   ·have b2:decide (((U1.length:Int)) > ((V1.length:Int)))=false:=by rw[decide_eq_false_iff_not];omega
    have v2:IntKind.i64.wrap ((V1.length:Int) - (U1.length:Int))=((V1.take (V1.length - U1.length)).length:Int):=by rw[bj (by omega) (by omega),List.length_take];omega
    have v3:IntKind.i64.wrap (IntKind.i64.wrap ((M:Int)+(V1.length:Int)) - (U1.length:Int))=((A1.length+U1.length+(V1.take (V1.length - U1.length)).length:Nat):Int):=by
     rw[bj (n:=(M:Int)+(V1.length:Int)) (by omega) (by omega),bj (by omega) (by omega),List.length_take];omega
    have ht:(V1.take (V1.length - U1.length)).length=V1.length - U1.length:=by rw[List.length_take];omega
    have hd:(V1.drop (V1.length - U1.length)).length=U1.length:=by rw[List.length_drop];omega
    have hsw:=A2 A1 U1 (V1.take (V1.length - U1.length)) (V1.drop (V1.length - U1.length)) C1 hd.symm (by simp only[List.length_append,ht,hd];omega)
    have e1:A1++U1++V1.take (V1.length - U1.length)++V1.drop (V1.length - U1.length)++C1=A1++U1++V1++C1:=by rw[List.append_assoc (A1++U1),List.take_append_drop]
    rw[e1]at hsw
    simp only[b1,b2,v1,v2,v3,cond_true,cond_false]
    refine⟨fun _=>⟨(fun h=>by cases h),fun _=>hsw.1⟩,.inr ⟨_,rfl,by simp only[ht];omega,A1,V1.drop (V1.length - U1.length),V1.take (V1.length - U1.length),U1++C1,?_,fun h=>?_,fun h=>?_,by rw[hd];exact hM1,?_⟩⟩
    ·rw[hsw.2,hd];simp
    ·rw[h]at hd;simp at hd;omega
    ·rw[h]at ht;simp at ht;omega
    ·rw[←hF1,List.append_assoc A1,List.take_append_drop];simp
 obtain⟨k1,r,k2,A1,U1,V1,C1,rfl,q1,q2,q3⟩:=hm rfl rfl
 have hFl:A1.length+V1.length+U1.length+C1.length<2 ^ 62:=by
  have:=congrArg List.length q3
  simp only[List.length_append]at this hl
  omega
 have v1:IntKind.i64.wrap (((A.length+U.length:Nat):Int) - (U1.length:Int))=(A1.length:Int):=by rw[bj (by omega) (by omega)];omega
 have hsw:=A2 A1 U1 [] V1 C1 q1 (by simp only[List.length_append,List.length_nil];omega)
 have e2:((A1.length+U1.length+([]:List Deed).length:Nat):Int)=((A.length+U.length:Nat):Int):=by rw[List.length_nil];omega
 rw[e2]at hsw
 simp only[List.append_nil]at hsw
 unfold bg aq
 rw[w1,w2]
 refine⟨⟨k1,u4 (Q:=fun _=>True) ⟨_,k2,trivial⟩,fun x hx=>?_⟩,?_⟩
 ·rw[k2]at hx;cases hx
  simp only[v1]
  exact hsw.1
 ·rw[k2]
  simp only[v1]
  rw[hsw.2,q3]
end Go.Sx
end
section
namespace Go.Sx
open Go.Proofs
theorem half {i j:Int}(h0:0≤i)(h1:i≤j)(h2:j≤2305843009213693952):IntKind.i64.wrap (bo .u64 (IntKind.u64.wrap (IntKind.i64.wrap (i+j))) 1)=(i+j) / 2:=by
 have e0:IntKind.i64.wrap (i+j)=i+j:=bj (by omega) (by omega)
 have e:IntKind.u64.wrap (i+j)=i+j:=by
  unfold IntKind.wrap
  simp[IntKind.bits,IntKind.signed]
  omega
 have e2:bo .u64 (i+j) 1=(i+j) / 2:=by
  show Int.fdiv (i+j) ((2:Int) ^ min (Int.toNat 1) IntKind.u64.bits)=_
  have:(2:Int) ^ min (Int.toNat 1) IntKind.u64.bits=2:=by decide
  rw[this,Int.fdiv_eq_ediv_of_nonneg _ (by omega)]
 rw[e0,e,e2,bj (by omega) (by omega)]
theorem FJ {i j:Nat}(h1:i≤j)(h2:j<2 ^ 61):IntKind.i64.wrap (bo .u64 (IntKind.u64.wrap (IntKind.i64.wrap ((i:Int)+(j:Int)))) 1)=(((i+j) / 2:Nat):Int):=by
 rw[half (by omega) (by omega) (by omega)];omega
theorem El {step:Nat→Int×Int→Int⊕(Int×Int)}{p:Nat→Int×Int→Prop}(P:Nat→Bool)(lo hi:Nat)(hlh:lo≤hi)(hmono:∀ x y,lo≤x→x≤y→y<hi→P y=true→P x=true)
  (hstep:∀ k (i j:Nat),lo≤i→i<j→j≤hi→p k ((i:Int),(j:Int))∧step k ((i:Int),(j:Int))=bif P ((i+j) / 2)then .inr ((((i+j) / 2+1:Nat):Int),(j:Int))else .inr ((i:Int),(((i+j) / 2:Nat):Int)))
  (hstop:∀ k (i:Nat),p k ((i:Int),(i:Int))∧step k ((i:Int),(i:Int))=.inl (i:Int)) (n k:Nat) (hn:hi - lo<n):
  okI step p n k ((lo:Int),(hi:Int))∧∃ r,an step n k ((lo:Int),(hi:Int))=.inl r∧∃ q:Nat,r=(q:Int)∧lo≤q∧q≤hi∧(∀ x,lo≤x→x<q→P x=true)∧∀ x,q≤x→x<hi→P x=false:=by
 refine vB (fun s:Int×Int=>(s.2 - s.1).toNat) (fun s:Int×Int=>∃ i j:Nat,s=((i:Int),(j:Int))∧lo≤i∧i≤j∧j≤hi∧(∀ x,lo≤x→x<i→P x=true)∧∀ x,j≤x→x<hi→P x=false) _ ?_ n k _ ⟨lo,hi,rfl,Nat.le_refl _,hlh,Nat.le_refl _,fun x h1 h2=>by omega,fun x h1 h2=>by omega⟩ (by simp only;omega)
 rintro k s ⟨i,j,rfl,h1,h2,h3,h4,h5⟩
 by_cases h:i<j
 ·obtain⟨q1,q2⟩:=hstep k i j h1 h h3
  refine⟨q1,.inr ?_⟩
  have hm1:i≤(i+j) / 2:=by omega
  have hm2:(i+j) / 2<j:=by omega
  cases hP:P ((i+j) / 2)with
  |true=>
   rw[hP]at q2
   refine⟨_,q2,by simp only;omega,(i+j) / 2+1,j,rfl,by omega,by omega,h3,fun x hx1 hx2=>?_,h5⟩
   exact hmono x _ hx1 (by omega) (by omega) hP
  |false=>
   rw[hP]at q2
   refine⟨_,q2,by simp only;omega,i,(i+j) / 2,rfl,h1,hm1,by omega,h4,fun x hx1 hx2=>?_⟩
   cases hx:P x with
   |false=>rfl
   |true=>rw[hmono _ x (by omega) hx1 hx2 hx]at hP;cases hP
 ·have e:i=j:=by omega
  subst e
  obtain⟨q1,q2⟩:=hstop k i
  exact⟨q1,.inl ⟨_,q2,i,rfl,h1,h3,h4,h5⟩⟩
end Go.Sx
end
section
namespace Go.Sx
open Go.Proofs
theorem JO (A V C:List Deed)(x:Deed)(l_:List Deed)(hl:(A++x::V++C).length<2 ^ 62)(hfuel:(A++x::V++C).length=l_.length):
  okI (oD l_ ((A.length+1+V.length:Nat):Int)) (nZ l_ ((A.length+1+V.length:Nat):Int)) (l_.length+1) 0 (A++x::V++C,(A.length:Int))∧
  ∃ r,an (oD l_ ((A.length+1+V.length:Nat):Int)) (l_.length+1) 0 (A++x::V++C,(A.length:Int))=.inl r∧r=A++V++x::C:=by
 have hlen:(A++x::V++C).length=A.length+V.length+C.length+1:=by simp;omega
 have w0:IntKind.i64.wrap (((A.length+1+V.length:Nat):Int) - 1)=((A.length+V.length:Nat):Int):=by rw[bj (by omega) (by omega)];omega
 refine vB (fun s:List Deed×Int=>(((A.length+V.length:Nat):Int) - s.2).toNat) (fun s:List Deed×Int=>∃ V1 V2,V=V1++V2∧s=(A++V1++x::(V2++C),((A.length+V1.length:Nat):Int))) (fun r=>r=A++V++x::C) ?_ _ _ _ ⟨[],V,rfl,by simp⟩ (by simp only;omega)
 rintro k s ⟨V1,V2,hV,rfl⟩
 have hVl:V.length=V1.length+V2.length:=by rw[hV,List.length_append]
 unfold nZ oD
 rw[w0]
 cases V2 with
 |nil=>
  have e:decide (((A.length+V1.length:Nat):Int) < ((A.length+V.length:Nat):Int))=false:=by rw[decide_eq_false_iff_not,hVl,List.length_nil];omega
  refine⟨fun h=>?_,.inl ⟨A++V1++x::([]++C),?_,by rw[hV];simp⟩⟩
  ·simp only[e]at h;cases h
  ·simp only[e,cond_false]
 |cons y V2=>
  simp only[List.length_cons]at hVl
  have e:decide (((A.length+V1.length:Nat):Int) < ((A.length+V.length:Nat):Int))=true:=by rw[decide_eq_true_eq];omega
  have w1:IntKind.i64.wrap (((A.length+V1.length:Nat):Int)+1)=((A.length+V1.length+1:Nat):Int):=by rw[bj (by omega) (by omega)];omega
  have g1:(A++V1++x::(y::V2++C)).getD (A.length+V1.length) default=x:=je _ _ _ _ (by simp)
  have r1:A++V1++x::(y::V2++C)=(A++V1++[x])++y::(V2++C):=by simp
  have g2:(A++V1++x::(y::V2++C)).getD (A.length+V1.length+1) default=y:=by rw[r1];exact je _ _ _ _ (by simp;omega)
  have hL:(A++V1++x::(y::V2++C)).length=A.length+V.length+C.length+1:=by simp;omega
  simp only[e,w1,Int.toNat_natCast,g1,g2,List.length_set,hL,cond_true]
  refine⟨fun _=>by omega,.inr ⟨_,rfl,by simp only;omega,V1++[y],V2,by rw[hV];simp,?_⟩⟩
  rw[oK (A++V1) x y _ (by simp)]
  have r2:A++V1++y::(y::V2++C)=(A++V1++[y])++y::(V2++C):=by simp
  rw[r2,oK (A++V1++[y]) y x _ (by simp;omega)]
  simp[Nat.add_assoc]
theorem Em (A U C:List Deed)(x:Deed)(l_:List Deed)(hl:(A++U++x::C).length<2 ^ 62)(hfuel:(A++U++x::C).length=l_.length):
  okI (oE l_ (A.length:Int)) (n8 l_ (A.length:Int)) (l_.length+1) 0 (A++U++x::C,((A.length+U.length:Nat):Int))∧
  ∃ r,an (oE l_ (A.length:Int)) (l_.length+1) 0 (A++U++x::C,((A.length+U.length:Nat):Int))=.inl r∧r=A++x::(U++C):=by
 have hlen:(A++U++x::C).length=A.length+U.length+C.length+1:=by simp;omega
 refine vB (fun s:List Deed×Int=>(s.2 - (A.length:Int)).toNat) (fun s:List Deed×Int=>∃ W1 W2,U=W1++W2∧s=(A++W1++x::(W2++C),((A.length+W1.length:Nat):Int))) (fun r=>r=A++x::(U++C)) ?_ _ _ _ ⟨U,[],by simp,by simp⟩ (by simp only;omega)
 rintro k s ⟨W1,W2,hU,rfl⟩
 have hUl:U.length=W1.length+W2.length:=by rw[hU,List.length_append]
 unfold n8 oE
 rcases List.eq_nil_or_concat W1 with rfl| ⟨W1,y,rfl⟩
 ·have e:decide (((A.length+([]:List Deed).length:Nat):Int) > (A.length:Int))=false:=by simp
  refine⟨fun h=>?_,.inl ⟨A++[]++x::(W2++C),?_,by rw[hU];simp⟩⟩
  ·simp only[e]at h;cases h
  ·simp only[e,cond_false]
 ·simp only[List.concat_eq_append,List.length_append,List.length_cons,List.length_nil]at hUl hU ⊢
  have e:decide (((A.length+(W1.length+(0+1)):Nat):Int) > (A.length:Int))=true:=by rw[decide_eq_true_eq];omega
  have w1:IntKind.i64.wrap (((A.length+(W1.length+(0+1)):Nat):Int) - 1)=((A.length+W1.length:Nat):Int):=by rw[bj (by omega) (by omega)];omega
  have g1:(A++(W1++[y])++x::(W2++C)).getD (A.length+(W1.length+(0+1))) default=x:=je _ _ _ _ (by simp)
  have r1:A++(W1++[y])++x::(W2++C)=(A++W1)++y::x::(W2++C):=by simp
  have g2:(A++(W1++[y])++x::(W2++C)).getD (A.length+W1.length) default=y:=by rw[r1];exact je _ _ _ _ (by simp)
  have hL:(A++(W1++[y])++x::(W2++C)).length=A.length+U.length+C.length+1:=by simp;omega
  simp only[e,w1,Int.toNat_natCast,g1,g2,List.length_set,hL,cond_true]
  refine⟨fun _=>by omega,.inr ⟨_,rfl,by simp only;omega,W1,y::W2,by rw[hU];simp,?_⟩⟩
  rw[oK (A++(W1++[y])) x y _ (by simp)]
  have r2:A++(W1++[y])++y::(W2++C)=(A++W1)++y::y::(W2++C):=by simp
  rw[r2,oK (A++W1) y x _ (by simp)]
  simp
end Go.Sx
end
section
namespace Go.Sx
open Go.Proofs
theorem tz {α:Type}(A V C:List α)(d:α){h:Nat}(h1:A.length≤h)(h2:h<A.length+V.length):(A++V++C).getD h d=V.getD (h - A.length) d:=by
 simp only[List.getD_eq_getElem?_getD]
 rw[List.append_assoc,List.getElem?_append_right h1,List.getElem?_append_left (by omega)]
theorem vO {α:Type}(l:List α)(d:α){n:Nat}(h:n<l.length):l.getD n d=l[n]:=by
 simp[List.getD_eq_getElem?_getD,List.getElem?_eq_getElem h]
theorem lp {V:List Deed}(h:Srt V){i j:Nat}(h1:i≤j)(h2:j<V.length):(V.getD i default).at_≤(V.getD j default).at_:=by
 rcases Nat.eq_or_lt_of_le h1 with rfl|h1
 ·exact Int.le_refl _
 ·rw[vO V _ (by omega),vO V _ h2]
  exact List.pairwise_iff_getElem.1 h i j (by omega) h2 h1
theorem tA {V:List Deed}{k:Nat}{y:Deed}(h:y∈V.take k):∃ i,i<k∧i<V.length∧y=V.getD i default:=by
 obtain⟨i,hi,e⟩:=List.mem_iff_getElem.1 h
 rw[List.length_take]at hi
 refine⟨i,by omega,by omega,?_⟩
 rw[vO V _ (by omega),←e,List.getElem_take]
theorem tB {V:List Deed}{k:Nat}{y:Deed}(h:y∈V.drop k):∃ i,k≤i∧i<V.length∧y=V.getD i default:=by
 obtain⟨i,hi,e⟩:=List.mem_iff_getElem.1 h
 rw[List.length_drop]at hi
 refine⟨k+i,by omega,by omega,?_⟩
 rw[vO V _ (by omega),←e,List.getElem_drop]
theorem vP {a b:List Deed}(h:Srt (a++b)):Srt a∧Srt b∧∀ x∈a,∀ y∈b,x.at_≤y.at_:=List.pairwise_append.1 h
theorem xO {a b:List Deed}(h1:Srt a)(h2:Srt b)(h3:∀ x∈a,∀ y∈b,x.at_≤y.at_):Srt (a++b):=List.pairwise_append.2 ⟨h1,h2,h3⟩
def NE (n:Nat)(rec_:Int→Int→Int→List Deed→List Deed)(recp_:Int→Int→Int→List Deed→Prop):Prop:=
 ∀ A U V C:List Deed,U≠[]→V≠[]→U.length+V.length≤n→(A++U++V++C).length<2 ^ 60→Srt U→Srt V→
  recp_ (A.length:Int) ((A.length+U.length:Nat):Int) ((A.length+U.length+V.length:Nat):Int) (A++U++V++C)∧
  ∃ M,rec_ (A.length:Int) ((A.length+U.length:Nat):Int) ((A.length+U.length+V.length:Nat):Int) (A++U++V++C)=A++M++C∧SameF (U++V) M∧Srt M∧M.length=U.length+V.length
theorem En (rec_:Int→Int→Int→List Deed→List Deed)(recp_:Int→Int→Int→List Deed→Prop)(A V C:List Deed)(x:Deed)(hl:(A++[x]++V++C).length<2 ^ 60)(hV:Srt V):
  oF rec_ recp_ (A.length:Int) ((A.length+1:Nat):Int) ((A.length+1+V.length:Nat):Int) (A++[x]++V++C)∧
  ∃ M,AL rec_ recp_ (A.length:Int) ((A.length+1:Nat):Int) ((A.length+1+V.length:Nat):Int) (A++[x]++V++C)=A++M++C∧SameF ([x]++V) M∧Srt M∧M.length=1+V.length:=by
 have hL:(A++[x]++V++C).length=A.length+V.length+C.length+1:=by simp;omega
 have w:IntKind.i64.wrap (((A.length+1:Nat):Int) - (A.length:Int))=1:=by rw[bj (by omega) (by omega)];omega
 have gx:(A++[x]++V++C).getD A.length default=x:=by
  have:A++[x]++V++C=A++x::(V++C):=by simp
  rw[this];exact je _ _ _ _ rfl
 have gV:∀ h,A.length+1≤h→h<A.length+1+V.length→(A++[x]++V++C).getD h default=V.getD (h - (A.length+1)) default:=fun h h1 h2=>by
  have:=tz (A++[x]) V C default (h:=h) (by simp;omega) (by simp;omega)
  simpa using this
 have s:=El (step:=jQ (A.length:Int) (A++[x]++V++C)) (p:=mg (A.length:Int) (A++[x]++V++C)) (fun h=>decide ((V.getD (h - (A.length+1)) default).at_<x.at_)) (A.length+1) (A.length+1+V.length) (by omega)
  (fun i j h1 h2 h3 h4=>by
   have:=lp hV (i:=i - (A.length+1)) (j:=j - (A.length+1)) (by omega) (by omega)
   simp only[decide_eq_true_eq]at h4 ⊢
   omega)
  (fun k i j h1 h2 h3=>by
   have e:decide ((i:Int) < (j:Int))=true:=by rw[decide_eq_true_eq];omega
   unfold mg jQ
   simp only[FJ (i:=i) (j:=j) (by omega) (by omega),e,cond_true,Int.toNat_natCast,gx,gV ((i+j) / 2) (by omega) (by omega),FI,hL]
   have w2:IntKind.i64.wrap ((((i+j) / 2:Nat):Int)+1)=(((i+j) / 2+1:Nat):Int):=by rw[bj (by omega) (by omega)];omega
   rw[w2]
   exact⟨fun _=>by omega,rfl⟩)
  (fun k i=>by
   have e:decide ((i:Int) < (i:Int))=false:=by simp
   unfold mg jQ
   simp only[e,cond_false]
   exact⟨fun h=>by simp at h,trivial⟩) ((A++[x]++V++C).length+1) 0 (by omega)
 obtain⟨s1,r,s2,q,rfl,q1,q2,q3,q4⟩:=s
 have ht:(V.take (q - (A.length+1))).length=q - (A.length+1):=by rw[List.length_take];omega
 have hVs:V.take (q - (A.length+1))++V.drop (q - (A.length+1))=V:=List.take_append_drop _ _
 have hd1:∀ y∈V.take (q - (A.length+1)),y.at_<x.at_:=fun y hy=>by
  obtain⟨i,i1,i2,rfl⟩:=tA hy
  have:=q3 (A.length+1+i) (by omega) (by omega)
  simpa[show A.length+1+i - (A.length+1)=i by omega]using this
 have hd2:∀ y∈V.drop (q - (A.length+1)),x.at_≤y.at_:=fun y hy=>by
  obtain⟨i,i1,i2,rfl⟩:=tB hy
  have:=q4 (A.length+1+i) (by omega) (by omega)
  simpa[show A.length+1+i - (A.length+1)=i by omega]using this
 generalize hV1:V.take (q - (A.length+1))=V1 at *
 generalize hV2:V.drop (q - (A.length+1))=V2 at *
 subst hVs
 have eq:A++[x]++(V1++V2)++C=A++x::V1++(V2++C):=by simp
 obtain⟨c1,r,c2,rfl⟩:=JO A V1 (V2++C) x (A++[x]++(V1++V2)++C) (by rw[←eq];omega) (by rw[eq])
 have eqq:((A.length+1+V1.length:Nat):Int)=(q:Int):=by rw[ht];omega
 rw[←eq,eqq]at c1 c2
 unfold oF AL
 rw[w]
 refine⟨⟨fun _=>⟨s1,u4 (Q:=fun _=>True) ⟨_,s2,trivial⟩,fun z hz=>?_⟩,fun h=>by cases h⟩,V1++[x]++V2,?_,?_,?_,?_⟩
 ·rw[s2]at hz
  cases hz
  exact⟨c1,u4 (Q:=fun _=>True) ⟨_,c2,trivial⟩⟩
 ·rw[s2]
  simp only[BEq.rfl,cond_true]
  rw[c2]
  simp
 ·have h0:SameF ([x]++V1) (V1++[x]):=SameF.swap fun a ha b hb=>by simp at ha;subst ha;have:=hd1 b hb;omega
  simpa using h0.app (SameF.refl V2)
 ·obtain⟨a1,a2,a3⟩:=vP hV
  refine xO (xO a1 (List.pairwise_singleton _ _) fun y hy z hz=>?_) a2 fun y hy z hz=>?_
  ·simp at hz;subst hz;exact Int.le_of_lt (hd1 y hy)
  ·rcases List.mem_append.1 hy with hy|hy
   ·exact a3 y hy z hz
   ·simp at hy;subst hy;exact hd2 z hz
 ·simp;omega
end Go.Sx
end
section
namespace Go.Sx
open Go.Proofs
theorem CQ (rec_:Int→Int→Int→List Deed→List Deed)(recp_:Int→Int→Int→List Deed→Prop)(A U C:List Deed)(x:Deed)(hU2:2≤U.length)(hl:(A++U++[x]++C).length<2 ^ 60)(hU:Srt U):
  oF rec_ recp_ (A.length:Int) ((A.length+U.length:Nat):Int) ((A.length+U.length+1:Nat):Int) (A++U++[x]++C)∧
  ∃ M,AL rec_ recp_ (A.length:Int) ((A.length+U.length:Nat):Int) ((A.length+U.length+1:Nat):Int) (A++U++[x]++C)=A++M++C∧SameF (U++[x]) M∧Srt M∧M.length=U.length+1:=by
 have hL:(A++U++[x]++C).length=A.length+U.length+C.length+1:=by simp;omega
 have w1:IntKind.i64.wrap (((A.length+U.length:Nat):Int) - (A.length:Int))=(U.length:Int):=by rw[bj (by omega) (by omega)];omega
 have w:IntKind.i64.wrap (((A.length+U.length+1:Nat):Int) - ((A.length+U.length:Nat):Int))=1:=by rw[bj (by omega) (by omega)];omega
 have b1:((U.length:Int) ==1)=false:=by simp;omega
 have gx:(A++U++[x]++C).getD (A.length+U.length) default=x:=by
  have:A++U++[x]++C=(A++U)++x::C:=by simp
  rw[this];exact je _ _ _ _ (by simp)
 have gU:∀ h,A.length≤h→h<A.length+U.length→(A++U++[x]++C).getD h default=U.getD (h - A.length) default:=fun h h1 h2=>by
  have:=tz A U ([x]++C) default (h:=h) h1 h2
  simpa using this
 have s:=El (step:=jR ((A.length+U.length:Nat):Int) (A++U++[x]++C)) (p:=mh ((A.length+U.length:Nat):Int) (A++U++[x]++C)) (fun h=>!decide (x.at_< (U.getD (h - A.length) default).at_)) A.length (A.length+U.length) (by omega)
  (fun i j h1 h2 h3 h4=>by
   have:=lp hU (i:=i - A.length) (j:=j - A.length) (by omega) (by omega)
   simp only[Bool.not_eq_true',decide_eq_false_iff_not]at h4 ⊢
   omega)
  (fun k i j h1 h2 h3=>by
   have e:decide ((i:Int) < (j:Int))=true:=by rw[decide_eq_true_eq];omega
   unfold mh jR
   simp only[FJ (i:=i) (j:=j) (by omega) (by omega),e,cond_true,Int.toNat_natCast,gx,gU ((i+j) / 2) (by omega) (by omega),FI,hL]
   have w2:IntKind.i64.wrap ((((i+j) / 2:Nat):Int)+1)=(((i+j) / 2+1:Nat):Int):=by rw[bj (by omega) (by omega)];omega
   rw[w2]
   exact⟨fun _=>by omega,rfl⟩)
  (fun k i=>by
   have e:decide ((i:Int) < (i:Int))=false:=by simp
   unfold mh jR
   simp only[e,cond_false]
   exact⟨fun h=>by simp at h,trivial⟩) ((A++U++[x]++C).length+1) 0 (by omega)
 obtain⟨s1,r,s2,q,rfl,q1,q2,q3,q4⟩:=s
 have ht:(U.take (q - A.length)).length=q - A.length:=by rw[List.length_take];omega
 have hd:(U.drop (q - A.length)).length=U.length - (q - A.length):=List.length_drop
 have hUs:U.take (q - A.length)++U.drop (q - A.length)=U:=List.take_append_drop _ _
 have hd1:∀ y∈U.take (q - A.length),y.at_≤x.at_:=fun y hy=>by
  obtain⟨i,i1,i2,rfl⟩:=tA hy
  have:=q3 (A.length+i) (by omega) (by omega)
  simpa[show A.length+i - A.length=i by omega]using this
 have hd2:∀ y∈U.drop (q - A.length),x.at_<y.at_:=fun y hy=>by
  obtain⟨i,i1,i2,rfl⟩:=tB hy
  have:=q4 (A.length+i) (by omega) (by omega)
  simpa[show A.length+i - A.length=i by omega]using this
 generalize hV1:U.take (q - A.length)=V1 at *
 generalize hV2:U.drop (q - A.length)=V2 at *
 subst hUs
 have eq:A++(V1++V2)++[x]++C=(A++V1)++V2++x::C:=by simp
 obtain⟨c1,r,c2,rfl⟩:=Em (A++V1) V2 C x (A++(V1++V2)++[x]++C) (by rw[←eq];omega) (by rw[eq])
 have eqq:(((A++V1).length:Nat):Int)=(q:Int):=by rw[List.length_append,ht];omega
 have eqm:(((A++V1).length+V2.length:Nat):Int)=((A.length+(V1++V2).length:Nat):Int):=by simp only[List.length_append];omega
 rw[←eq,eqm,eqq]at c1 c2
 unfold oF AL
 rw[w1,w]
 refine⟨⟨fun h=>(by rw[b1]at h;cases h),fun _=>⟨fun _=>⟨s1,u4 (Q:=fun _=>True) ⟨_,s2,trivial⟩,fun z hz=>?_⟩,fun h=>by cases h⟩⟩,V1++[x]++V2,?_,?_,?_,?_⟩
 ·rw[s2]at hz
  cases hz
  exact⟨c1,u4 (Q:=fun _=>True) ⟨_,c2,trivial⟩⟩
 ·rw[s2]
  simp only[b1,BEq.rfl,cond_true,cond_false]
  rw[c2]
  simp
 ·have h0:SameF (V2++[x]) ([x]++V2):=SameF.swap fun a ha b hb=>by simp at hb;subst hb;have:=hd2 a ha;omega
  simpa using (SameF.refl V1).app h0
 ·obtain⟨a1,a2,a3⟩:=vP hU
  refine xO (xO a1 (List.pairwise_singleton _ _) fun y hy z hz=>?_) a2 fun y hy z hz=>?_
  ·simp at hz;subst hz;exact hd1 y hy
  ·rcases List.mem_append.1 hy with hy|hy
   ·exact a3 y hy z hz
   ·simp at hy;subst hy;exact Int.le_of_lt (hd2 z hz)
 ·simp;omega
end Go.Sx
end
section
namespace Go.Sx
open Go.Proofs
def stI (x:Deed):List Deed→List Deed
 | [] =>[x]
 |y::r=>if x.at_≤y.at_ then x::y::r else y::stI x r
def stS:List Deed→List Deed
 | [] =>[]
 |x::r=>stI x (stS r)
theorem xP (x:Deed):∀ l,SameF (x::l) (stI x l)
 | [] =>SameF.refl _
 |y::r=>by
  unfold stI
  by_cases h:x.at_≤y.at_
  ·rw[if_pos h];exact SameF.refl _
  ·rw[if_neg h]
   have h1:SameF ([x]++[y]++r) ([y]++[x]++r):=(SameF.swap fun a ha b hb=>by simp at ha hb;subst ha;subst hb;omega).app (SameF.refl r)
   exact h1.trans ((SameF.refl [y]).app (xP x r))
theorem SameF.symm {a b:List Deed}(h:SameF a b):SameF b a:=fun t=>(h t).symm
theorem SameF.mem {a b:List Deed}(h:SameF a b){x:Deed}(hx:x∈a):x∈b:=by
 have:x∈a.filter fun y=>y.at_==x.at_:=by rw[List.mem_filter];exact⟨hx,by simp⟩
 rw[h x.at_]at this
 exact(List.mem_filter.1 this).1
theorem SameF.mem_iff {a b:List Deed}(h:SameF a b){x:Deed}:x∈a↔x∈b:=⟨h.mem,h.symm.mem⟩
theorem FK (x:Deed):∀ l,Srt l→Srt (stI x l)
 | [],_=>List.pairwise_singleton _ _
 |y::r,h=>by
  unfold stI
  have h':=List.pairwise_cons.1 h
  by_cases hc:x.at_≤y.at_
  ·rw[if_pos hc]
   exact List.pairwise_cons.2 ⟨fun z hz=>by
    rcases List.mem_cons.1 hz with rfl|hz
    ·exact hc
    ·exact Int.le_trans hc (h'.1 z hz),h⟩
  ·rw[if_neg hc]
   refine List.pairwise_cons.2 ⟨fun z hz=>?_,FK x r h'.2⟩
   have:=(xP x r).symm.mem hz
   rcases List.mem_cons.1 this with rfl|hz'
   ·omega
   ·exact h'.1 z hz'
theorem qj:∀ l,SameF l (stS l)
 | [] =>SameF.refl _
 |x::r=>((SameF.refl [x]).app (qj r)).trans (xP x _)
theorem A3:∀ l,Srt (stS l)
 | [] =>List.Pairwise.nil
 |x::r=>FK x _ (A3 r)
theorem u5:∀ {a b:List Deed},Srt a→Srt b→SameF a b→a=b
 | [],[],_,_,_=>rfl
 | [],y::b,_,_,h=>absurd (h.symm.mem (List.mem_cons_self)) (by simp)
 |x::a,[],_,_,h=>absurd (h.mem (List.mem_cons_self)) (by simp)
 |x::a,y::b,ha,hb,h=>by
  have ha':=List.pairwise_cons.1 ha
  have hb':=List.pairwise_cons.1 hb
  have e:x.at_=y.at_:=by
   have h1:=h.mem (List.mem_cons_self (a:=x) (l:=a))
   have h2:=h.symm.mem (List.mem_cons_self (a:=y) (l:=b))
   have q1:y.at_≤x.at_:=by
    rcases List.mem_cons.1 h1 with e|h1
    ·rw[e];exact Int.le_refl _
    ·exact hb'.1 x h1
   have q2:x.at_≤y.at_:=by
    rcases List.mem_cons.1 h2 with e|h2
    ·rw[e];exact Int.le_refl _
    ·exact ha'.1 y h2
   omega
  have h0:=h x.at_
  have ey:(y.at_==x.at_)=true:=by simp[e]
  have ex:(x.at_==x.at_)=true:=by simp
  simp only[List.filter_cons,ex,ey,if_true]at h0
  obtain⟨exy,htl⟩:=List.cons.inj h0
  subst exy
  have:SameF a b:=fun t=>by
   have ht:=h t
   simp only[List.filter_cons]at ht
   by_cases hc:(x.at_==t)=true
   ·rw[if_pos hc,if_pos hc]at ht;exact(List.cons.inj ht).2
   ·rw[if_neg hc,if_neg hc]at ht;exact ht
  rw[u5 ha'.2 hb'.2 this]
theorem xQ {a b:List Deed}(h:SameF a b)(hb:Srt b):b=stS a:=u5 hb (A3 a) (h.symm.trans (qj a))
theorem SameF.filter {a b:List Deed}(p:Deed→Bool)(h:SameF a b):SameF (a.filter p) (b.filter p):=fun t=>by
 rw[List.filter_filter,List.filter_filter,List.filter_congr (q:=fun x=>p x&&(x.at_==t)) fun x _=>Bool.and_comm _ _,←List.filter_filter,h t,List.filter_filter,List.filter_congr (p:=fun x=>p x&&(x.at_==t)) (q:=fun x=>(x.at_==t)&&p x) fun x _=>Bool.and_comm _ _]
theorem MA {l:List Deed}{x:Deed}:x∈stS l↔x∈l:=(qj l).symm.mem_iff
end Go.Sx
end
section
namespace Go.Sx
open Go.Proofs
theorem TY {c1 c2 c3:Bool}{l rot:List Deed}(f1 f2:List Deed→List Deed):
  (bif c1 then(bif c2 then(bif c3 then f2 (f1 rot)else f1 rot)else(bif c3 then f2 rot else rot))else(bif c2 then(bif c3 then f2 (f1 l)else f1 l)else(bif c3 then f2 l else l)))=(bif c3 then f2 (bif c2 then f1 (bif c1 then rot else l)else(bif c1 then rot else l))else(bif c2 then f1 (bif c1 then rot else l)else(bif c1 then rot else l))):=by
 cases c1 <;>cases c2 <;>cases c3 <;>rfl
theorem PJ {c1 c2 c3:Bool}{l rot:List Deed}{rp:Prop}(f1:List Deed→List Deed)(p1 p2:List Deed→Prop)(h1:c1=true→rp)(h2:c2=true→p1 (bif c1 then rot else l))(h3:c3=true→p2 (bif c2 then f1 (bif c1 then rot else l)else(bif c1 then rot else l))):
  ((c1=true→(rp∧((c2=true→(p1 rot∧(c3=true→p2 (f1 rot))))∧(c2=false→c3=true→p2 rot))))∧(c1=false→((c2=true→(p1 l∧(c3=true→p2 (f1 l))))∧(c2=false→c3=true→p2 l)))):=by
 cases c1 <;>cases c2 <;>cases c3 <;>simp_all
theorem Eo {N:Nat}{rec_:Int→Int→Int→List Deed→List Deed}{recp_:Int→Int→Int→List Deed→Prop}(hr:NE N rec_ recp_)(A U V C:List Deed)(hU2:2≤U.length)(hV2:2≤V.length)(hN:U.length+V.length≤N+1)(hl:(A++U++V++C).length<2 ^ 60)(hU:Srt U)(hV:Srt V):
  oF rec_ recp_ (A.length:Int) ((A.length+U.length:Nat):Int) ((A.length+U.length+V.length:Nat):Int) (A++U++V++C)∧
  ∃ M,AL rec_ recp_ (A.length:Int) ((A.length+U.length:Nat):Int) ((A.length+U.length+V.length:Nat):Int) (A++U++V++C)=A++M++C∧SameF (U++V) M∧Srt M∧M.length=U.length+V.length:=by
 have hL:(A++U++V++C).length=A.length+U.length+V.length+C.length:=by simp[Nat.add_assoc]
 have gU:∀ h,A.length≤h→h<A.length+U.length→(A++U++V++C).getD h default=U.getD (h - A.length) default:=fun h h1 h2=>by
  have:=tz A U (V++C) default (h:=h) h1 h2
  simpa using this
 have gV:∀ h,A.length+U.length≤h→h<A.length+U.length+V.length→(A++U++V++C).getD h default=V.getD (h - (A.length+U.length)) default:=fun h h1 h2=>by
  have:=tz (A++U) V C default (h:=h) (by simp;omega) (by simp;omega)
  simpa using this
 have hmid:IntKind.i64.wrap (bo .u64 (IntKind.u64.wrap (IntKind.i64.wrap ((A.length:Int)+((A.length+U.length+V.length:Nat):Int)))) 1)=((A.length+(U.length+V.length) / 2:Nat):Int):=by
  rw[FJ (by omega) (by omega)];omega
 generalize hmd:A.length+(U.length+V.length) / 2=mid at *
 have hn:IntKind.i64.wrap ((mid:Int)+((A.length+U.length:Nat):Int))=((mid+(A.length+U.length):Nat):Int):=by rw[bj (by omega) (by omega)];omega
 have hp1:IntKind.i64.wrap (((mid+(A.length+U.length):Nat):Int) - 1)=((mid+(A.length+U.length) - 1:Nat):Int):=by rw[bj (by omega) (by omega)];omega
 have w1:IntKind.i64.wrap (((A.length+U.length:Nat):Int) - (A.length:Int))=(U.length:Int):=by rw[bj (by omega) (by omega)];omega
 have w2:IntKind.i64.wrap (((A.length+U.length+V.length:Nat):Int) - ((A.length+U.length:Nat):Int))=(V.length:Int):=by rw[bj (by omega) (by omega)];omega
 have b1:((U.length:Int) ==1)=false:=by simp;omega
 have b2:((V.length:Int) ==1)=false:=by simp;omega
 obtain⟨lo,elo,hlo⟩:∃ lo:Nat,(bif decide (((A.length+U.length:Nat):Int) > (mid:Int))then IntKind.i64.wrap (((mid+(A.length+U.length):Nat):Int) - ((A.length+U.length+V.length:Nat):Int))else(A.length:Int))=(lo:Int)∧((mid<A.length+U.length∧lo+V.length=mid)∨(A.length+U.length≤mid∧lo=A.length)):=by
  by_cases h:mid<A.length+U.length
  ·refine⟨mid - V.length,?_,.inl ⟨h,by omega⟩⟩
   rw[decide_eq_true (by omega),cond_true,bj (by omega) (by omega)];omega
  ·refine⟨A.length,?_,.inr ⟨by omega,rfl⟩⟩
   rw[decide_eq_false (by omega),cond_false]
 obtain⟨hi,ehi,hhi⟩:∃ hi:Nat,(bif decide (((A.length+U.length:Nat):Int) > (mid:Int))then(mid:Int)else((A.length+U.length:Nat):Int))=(hi:Int)∧((mid<A.length+U.length∧hi=mid)∨(A.length+U.length≤mid∧hi=A.length+U.length)):=by
  by_cases h:mid<A.length+U.length
  ·exact⟨mid,by rw[decide_eq_true (by omega),cond_true],.inl ⟨h,rfl⟩⟩
  ·exact⟨A.length+U.length,by rw[decide_eq_false (by omega),cond_false],.inr ⟨by omega,rfl⟩⟩
 have s:=El (step:=nj (A.length:Int) ((A.length+U.length:Nat):Int) ((A.length+U.length+V.length:Nat):Int) (A++U++V++C)) (p:=mj (A.length:Int) ((A.length+U.length:Nat):Int) ((A.length+U.length+V.length:Nat):Int) (A++U++V++C)) (fun c=>!decide ((V.getD (mid - 1 - c) default).at_< (U.getD (c - A.length) default).at_)) lo hi (by omega)
  (fun i j h1 h2 h3 h4=>by
   have q1:=lp hU (i:=i - A.length) (j:=j - A.length) (by omega) (by omega)
   have q2:=lp hV (i:=mid - 1 - j) (j:=mid - 1 - i) (by omega) (by omega)
   simp only[Bool.not_eq_true',decide_eq_false_iff_not]at h4 ⊢
   omega)
  (fun k i j h1 h2 h3=>by
   have e:decide ((i:Int) < (j:Int))=true:=by rw[decide_eq_true_eq];omega
   have hc:IntKind.i64.wrap (((mid+(A.length+U.length) - 1:Nat):Int) - (((i+j) / 2:Nat):Int))=((mid+(A.length+U.length) - 1 - (i+j) / 2:Nat):Int):=by rw[bj (by omega) (by omega)];omega
   have e2:mid+(A.length+U.length) - 1 - (i+j) / 2 - (A.length+U.length)=mid - 1 - (i+j) / 2:=by omega
   unfold mj nj
   simp only[hmid,hn,hp1,FJ (i:=i) (j:=j) (by omega) (by omega),e,cond_true,hc,Int.toNat_natCast,gU ((i+j) / 2) (by omega) (by omega),gV (mid+(A.length+U.length) - 1 - (i+j) / 2) (by omega) (by omega),e2,FI,hL]
   have w2:IntKind.i64.wrap ((((i+j) / 2:Nat):Int)+1)=(((i+j) / 2+1:Nat):Int):=by rw[bj (by omega) (by omega)];omega
   rw[w2]
   exact⟨fun _=>by omega,rfl⟩)
  (fun k i=>by
   have e:decide ((i:Int) < (i:Int))=false:=by simp
   unfold mj nj
   simp only[e,cond_false]
   exact⟨fun h=>by simp at h,trivial⟩) ((A++U++V++C).length+1) 0 (by omega)
 obtain⟨s1,r,s2,q,rfl,q1,q2,q3,q4⟩:=s
 have hend:IntKind.i64.wrap (((mid+(A.length+U.length):Nat):Int) - (q:Int))=((mid+(A.length+U.length) - q:Nat):Int):=by rw[bj (by omega) (by omega)];omega
 have hUs:U.take (q - A.length)++U.drop (q - A.length)=U:=List.take_append_drop _ _
 have hVs:V.take (mid - q)++V.drop (mid - q)=V:=List.take_append_drop _ _
 have lU1:(U.take (q - A.length)).length=q - A.length:=by rw[List.length_take];omega
 have lU2:(U.drop (q - A.length)).length=A.length+U.length - q:=by rw[List.length_drop];omega
 have lV1:(V.take (mid - q)).length=mid - q:=by rw[List.length_take];omega
 have lV2:(V.drop (mid - q)).length=V.length+q - mid:=by rw[List.length_drop];omega
 have k1:∀ x∈U.take (q - A.length),∀ y∈V.drop (mid - q),x.at_≤y.at_:=fun x hx y hy=>by
  obtain⟨i,i1,i2,rfl⟩:=tA hx
  obtain⟨j,j1,j2,rfl⟩:=tB hy
  have:=q3 (q - 1) (by omega) (by omega)
  have p1:=lp hU (i:=i) (j:=q - 1 - A.length) (by omega) (by omega)
  have p2:=lp hV (i:=mid - 1 - (q - 1)) (j:=j) (by omega) (by omega)
  simp only[Bool.not_eq_true',decide_eq_false_iff_not]at this
  omega
 have k2:∀ x∈U.drop (q - A.length),∀ y∈V.take (mid - q),y.at_<x.at_:=fun x hx y hy=>by
  obtain⟨i,i1,i2,rfl⟩:=tB hx
  obtain⟨j,j1,j2,rfl⟩:=tA hy
  have:=q4 q (by omega) (by omega)
  have p1:=lp hU (i:=q - A.length) (j:=i) (by omega) (by omega)
  have p2:=lp hV (i:=j) (j:=mid - 1 - q) (by omega) (by omega)
  simp only[Bool.not_eq_false',decide_eq_true_eq]at this
  omega
 generalize hE1:U.take (q - A.length)=U1 at *
 generalize hE2:U.drop (q - A.length)=U2 at *
 generalize hE3:V.take (mid - q)=V1 at *
 generalize hE4:V.drop (mid - q)=V2 at *
 have lenU:U.length=U1.length+U2.length:=by rw[←hUs,List.length_append]
 have lenV:V.length=V1.length+V2.length:=by rw[←hVs,List.length_append]
 have hlist:A++U++V++C=A++U1++U2++V1++(V2++C):=by rw[←hUs,←hVs];simp
 obtain⟨sU1,sU2,sU⟩:=vP (by rw[hUs];exact hU:Srt (U1++U2))
 obtain⟨sV1,sV2,sV⟩:=vP (by rw[hVs];exact hV:Srt (V1++V2))
 have hrot:(decide ((q:Int) < ((A.length+U.length:Nat):Int))&&decide (((A.length+U.length:Nat):Int) < ((mid+(A.length+U.length) - q:Nat):Int)))=true→bg (q:Int) ((A.length+U.length:Nat):Int) ((mid+(A.length+U.length) - q:Nat):Int) (A++U++V++C)∧aq (q:Int) ((A.length+U.length:Nat):Int) ((mid+(A.length+U.length) - q:Nat):Int) (A++U++V++C)=A++U1++V1++(U2++V2++C):=fun h=>by
  simp only[Bool.and_eq_true,decide_eq_true_eq]at h
  have:=G5 (A++U1) U2 V1 (V2++C) (by rw[←List.length_pos_iff];omega) (by rw[←List.length_pos_iff];omega) (by rw[←hlist];omega)
  have e1:(((A++U1).length:Nat):Int)=(q:Int):=by rw[List.length_append];omega
  have e2:(((A++U1).length+U2.length:Nat):Int)=((A.length+U.length:Nat):Int):=by rw[List.length_append];omega
  have e3:(((A++U1).length+U2.length+V1.length:Nat):Int)=((mid+(A.length+U.length) - q:Nat):Int):=by rw[List.length_append];omega
  rw[←hlist,e1,e2,e3]at this
  refine⟨this.1,this.2.trans (by simp)⟩
 have hl1:(bif(decide ((q:Int) < ((A.length+U.length:Nat):Int))&&decide (((A.length+U.length:Nat):Int) < ((mid+(A.length+U.length) - q:Nat):Int)))then aq (q:Int) ((A.length+U.length:Nat):Int) ((mid+(A.length+U.length) - q:Nat):Int) (A++U++V++C)else A++U++V++C)=A++U1++V1++(U2++V2++C):=by
  cases hc:(decide ((q:Int) < ((A.length+U.length:Nat):Int))&&decide (((A.length+U.length:Nat):Int) < ((mid+(A.length+U.length) - q:Nat):Int)))with
  |true=>rw[cond_true,(hrot hc).2]
  |false=>
   rw[cond_false,hlist]
   simp only[Bool.and_eq_false_iff,decide_eq_false_iff_not]at hc
   have:U2=[]∨V1=[]:=by
    rcases hc with hc|hc
    ·exact .inl (List.eq_nil_of_length_eq_zero (by omega))
    ·exact .inr (List.eq_nil_of_length_eq_zero (by omega))
   rcases this with rfl|rfl <;>simp
 obtain⟨M1,hM1p,hM1,f1,t1,l1⟩:∃ M1,((decide ((A.length:Int) < (q:Int))&&decide ((q:Int) < (mid:Int)))=true→recp_ (A.length:Int) (q:Int) (mid:Int) (A++U1++V1++(U2++V2++C)))∧(bif(decide ((A.length:Int) < (q:Int))&&decide ((q:Int) < (mid:Int)))then rec_ (A.length:Int) (q:Int) (mid:Int) (A++U1++V1++(U2++V2++C))else A++U1++V1++(U2++V2++C))=A++M1++(U2++V2++C)∧SameF (U1++V1) M1∧Srt M1∧M1.length=U1.length+V1.length:=by
  cases hc:(decide ((A.length:Int) < (q:Int))&&decide ((q:Int) < (mid:Int)))with
  |true=>
   simp only[Bool.and_eq_true,decide_eq_true_eq]at hc
   obtain⟨h1,M1,h2,h3,h4,h5⟩:=hr A U1 V1 (U2++V2++C) (by rw[←List.length_pos_iff];omega) (by rw[←List.length_pos_iff];omega) (by omega) (by simp only[List.length_append]at hl ⊢;omega) sU1 sV1
   have e1:((A.length+U1.length:Nat):Int)=(q:Int):=by omega
   have e2:((A.length+U1.length+V1.length:Nat):Int)=(mid:Int):=by omega
   rw[e1,e2]at h1 h2
   exact⟨M1,fun _=>h1,h2,h3,h4,h5⟩
  |false=>
   simp only[Bool.and_eq_false_iff,decide_eq_false_iff_not]at hc
   refine⟨U1++V1,(fun h=>by cases h),by simp,SameF.refl _,?_,List.length_append⟩
   have:U1=[]∨V1=[]:=by
    rcases hc with hc|hc
    ·exact .inl (List.eq_nil_of_length_eq_zero (by omega))
    ·exact .inr (List.eq_nil_of_length_eq_zero (by omega))
   rcases this with rfl|rfl
   ·exact sV1
   ·simpa using sU1
 obtain⟨M2,hM2p,hM2,f2,t2,l2⟩:∃ M2,((decide ((mid:Int) < ((mid+(A.length+U.length) - q:Nat):Int))&&decide (((mid+(A.length+U.length) - q:Nat):Int) < ((A.length+U.length+V.length:Nat):Int)))=true→recp_ (mid:Int) ((mid+(A.length+U.length) - q:Nat):Int) ((A.length+U.length+V.length:Nat):Int) (A++M1++(U2++V2++C)))∧(bif(decide ((mid:Int) < ((mid+(A.length+U.length) - q:Nat):Int))&&decide (((mid+(A.length+U.length) - q:Nat):Int) < ((A.length+U.length+V.length:Nat):Int)))then rec_ (mid:Int) ((mid+(A.length+U.length) - q:Nat):Int) ((A.length+U.length+V.length:Nat):Int) (A++M1++(U2++V2++C))else A++M1++(U2++V2++C))=A++M1++M2++C∧SameF (U2++V2) M2∧Srt M2∧M2.length=U2.length+V2.length:=by
  cases hc:(decide ((mid:Int) < ((mid+(A.length+U.length) - q:Nat):Int))&&decide (((mid+(A.length+U.length) - q:Nat):Int) < ((A.length+U.length+V.length:Nat):Int)))with
  |true=>
   simp only[Bool.and_eq_true,decide_eq_true_eq]at hc
   obtain⟨h1,M2,h2,h3,h4,h5⟩:=hr (A++M1) U2 V2 C (by rw[←List.length_pos_iff];omega) (by rw[←List.length_pos_iff];omega) (by omega) (by simp only[List.length_append]at hl ⊢;omega) sU2 sV2
   have e0:(((A++M1).length:Nat):Int)=(mid:Int):=by rw[List.length_append];omega
   have e1:(((A++M1).length+U2.length:Nat):Int)=((mid+(A.length+U.length) - q:Nat):Int):=by rw[List.length_append];omega
   have e2:(((A++M1).length+U2.length+V2.length:Nat):Int)=((A.length+U.length+V.length:Nat):Int):=by rw[List.length_append];omega
   have e3:A++M1++U2++V2++C=A++M1++(U2++V2++C):=by simp
   rw[e0,e1,e2,e3]at h1 h2
   exact⟨M2,fun _=>h1,h2,h3,h4,h5⟩
  |false=>
   simp only[Bool.and_eq_false_iff,decide_eq_false_iff_not]at hc
   refine⟨U2++V2,(fun h=>by cases h),by simp,SameF.refl _,?_,List.length_append⟩
   have:U2=[]∨V2=[]:=by
    rcases hc with hc|hc
    ·exact .inl (List.eq_nil_of_length_eq_zero (by omega))
    ·exact .inr (List.eq_nil_of_length_eq_zero (by omega))
   rcases this with rfl|rfl
   ·exact sV2
   ·simpa using sU2
 unfold oF AL
 simp only[w1,w2,b1,b2,hmid,hn,elo,ehi,s2,hend,cond_false]
 refine⟨⟨(fun h=>by cases h),fun _=>⟨(fun h=>by cases h),fun _=>⟨s1,(fun z h=>by cases h),fun z hz=>?_⟩⟩⟩,M1++M2,?_,?_,?_,?_⟩
 ·cases hz
  simp only[hend]
  exact PJ (fun l=>rec_ (A.length:Int) (q:Int) (mid:Int) l) (fun l=>recp_ (A.length:Int) (q:Int) (mid:Int) l) (fun l=>recp_ (mid:Int) ((mid+(A.length+U.length) - q:Nat):Int) ((A.length+U.length+V.length:Nat):Int) l) (fun h=>(hrot h).1) (fun h=>by rw[hl1];exact hM1p h) (fun h=>by rw[hl1];simp only[hM1];exact hM2p h)
 ·refine(TY (fun l=>rec_ (A.length:Int) (q:Int) (mid:Int) l) (fun l=>rec_ (mid:Int) ((mid+(A.length+U.length) - q:Nat):Int) ((A.length+U.length+V.length:Nat):Int) l)).trans ?_
  rw[hl1]
  simp only[hM1]
  rw[hM2]
  simp
 ·have h0:SameF (U2++V1) (V1++U2):=SameF.swap fun a ha b hb=>by have:=k2 a ha b hb;omega
  have h1:SameF (U++V) (U1++V1++(U2++V2)):=by
   rw[←hUs,←hVs]
   have:=((SameF.refl U1).app h0).app (SameF.refl V2)
   simpa using this
  exact h1.trans (f1.app f2)
 ·refine xO t1 t2 fun x hx y hy=>?_
  have hx:=f1.symm.mem hx
  have hy:=f2.symm.mem hy
  rcases List.mem_append.1 hx with hx|hx <;>rcases List.mem_append.1 hy with hy|hy
  ·exact sU x hx y hy
  ·exact k1 x hx y hy
  ·exact Int.le_of_lt (k2 y hy x hx)
  ·exact sV x hx y hy
 ·rw[List.length_append];omega
end Go.Sx
end
section
namespace Go.Sx
open Go.Proofs
theorem CR:∀ n,NE n (kI n).1 (kI n).2
 |0=>fun A U V C hU hV h=>absurd (List.length_pos_iff.2 hU) (by omega)
 |n+1=>fun A U V C hU hV hN hl sU sV=>by
  have pU:=List.length_pos_iff.2 hU
  have pV:=List.length_pos_iff.2 hV
  by_cases h1:U.length=1
  ·obtain⟨x,rfl⟩:=List.length_eq_one_iff.1 h1
   exact En _ _ A V C x hl sV
  ·by_cases h2:V.length=1
   ·obtain⟨x,rfl⟩:=List.length_eq_one_iff.1 h2
    exact CQ _ _ A U C x (by omega) hl sU
   ·exact Eo (CR n) A U V C (by omega) (by omega) hN hl sU sV
theorem JP (A U V C:List Deed)(hU:U≠[])(hV:V≠[])(hl:(A++U++V++C).length<2 ^ 60)(sU:Srt U)(sV:Srt V):
  bK (A.length:Int) ((A.length+U.length:Nat):Int) ((A.length+U.length+V.length:Nat):Int) (A++U++V++C)∧
  ∃ M,bT (A.length:Int) ((A.length+U.length:Nat):Int) ((A.length+U.length+V.length:Nat):Int) (A++U++V++C)=A++M++C∧SameF (U++V) M∧Srt M∧M.length=U.length+V.length:=
 CR ((A++U++V++C).length+1) A U V C hU hV (by simp only[List.length_append];omega) hl sU sV
inductive Blk (n:Nat):List Deed→Prop
 |last {l:List Deed}:l.length≤n→Srt l→Blk n l
 |cons {b l:List Deed}:b.length=n→Srt b→Blk n l→Blk n (b++l)
inductive Full (n:Nat):List Deed→Prop
 |nil:Full n []
 |snoc {l b:List Deed}:Full n l→b.length=n→Srt b→Full n (l++b)
theorem Full.app {n:Nat}{a:List Deed}(h:Full n a):∀ {l:List Deed},Blk n l→Blk n (a++l):=by
 induction h with
 |nil=>exact fun h=>h
 |snoc _ hb hs ih=>exact fun h=>by rw[List.append_assoc];exact ih (.cons hb hs h)
theorem Blk.srt {n:Nat}{l:List Deed}(h:Blk n l)(hl:l.length≤n):Srt l:=by
 cases h with
 |last _ hs=>exact hs
 | @cons b r hb hs h=>
  rw[List.length_append]at hl
  have:=List.eq_nil_of_length_eq_zero (show r.length=0 by omega)
  subst this
  simpa using hs
theorem Blk.split {n:Nat}{l:List Deed}(h:Blk n l)(hl:n≤l.length):∃ b r,l=b++r∧b.length=n∧Srt b∧Blk n r:=by
 cases h with
 |last h1 hs=>exact⟨l,[],by simp,by omega,hs,.last (Nat.zero_le _) List.Pairwise.nil⟩
 |cons hb hs h=>exact⟨_,_,rfl,hb,hs,h⟩
theorem qy {a b:List Deed}(h:SameF a b):a.length=b.length:=by
 have e:∀ {l:List Deed},stS l=l∨True:=fun {_} =>.inr trivial
 have h1:∀ l:List Deed,(stS l).length=l.length:=fun l=>by
  induction l with
  |nil=>rfl
  |cons x r ih=>
   have:∀ l:List Deed,(stI x l).length=l.length+1:=fun l=>by
    induction l with
    |nil=>rfl
    |cons y l ih2=>
     unfold stI
     by_cases hc:x.at_≤y.at_
     ·rw[if_pos hc];simp
     ·rw[if_neg hc];simp[ih2]
   show(stI x (stS r)).length=_
   rw[this,ih];rfl
 rw[←h1 a,←h1 b,xQ (h.trans (qj b)) (A3 b)]
theorem zC (l:List Deed)(hl:l.length<2 ^ 58):bw (l.length:Int) l∧bL (l.length:Int) l=stS l:=by
 obtain⟨k1,r,k2,D,R,rfl,k3,k4,k5,k6⟩:okI (aI (l.length:Int)) (b8 (l.length:Int)) (Int.toNat (l.length:Int)+1) 0 (l,0,20)∧∃ r,an (aI (l.length:Int)) (Int.toNat (l.length:Int)+1) 0 (l,0,20)=.inl r∧∃ D R,r=(((D.length:Nat):Int),D++R)∧Full 20 D∧SameF l (D++R)∧R.length<20∧l.length=D.length+R.length:=by
  refine vB (fun s:List Deed×Int×Int=>((l.length:Int) - s.2.1).toNat) (fun s:List Deed×Int×Int=>∃ D R,s=(D++R,((D.length:Nat):Int),((D.length+20:Nat):Int))∧Full 20 D∧SameF l (D++R)∧l.length=D.length+R.length) _ ?_ _ _ _ ⟨[],l,rfl,.nil,SameF.refl _,by simp⟩ (by simp only[Int.toNat_natCast];omega)
  rintro k s ⟨D,R,rfl,hD,hF,hlen⟩
  unfold b8 aI
  by_cases h:20≤R.length
  ·have e:decide (((D.length+20:Nat):Int)≤(l.length:Int))=true:=by rw[decide_eq_true_eq];omega
   have hRs:R.take 20++R.drop 20=R:=List.take_append_drop _ _
   have hRt:(R.take 20).length=20:=by rw[List.length_take];omega
   have hRd:(R.drop 20).length=R.length - 20:=List.length_drop
   have hi:=zB D (R.take 20) (R.drop 20) (by simp only[List.length_append];omega)
   rw[List.append_assoc D,hRs,hRt]at hi
   obtain⟨i1,M,i2,i3,i4⟩:=hi
   have hM:=qy i3
   have w:IntKind.i64.wrap (((D.length+20:Nat):Int)+20)=(((D++M).length+20:Nat):Int):=by rw[bj (by omega) (by omega),List.length_append];omega
   simp only[e,cond_true,w]
   refine⟨fun _=>i1,.inr ⟨_,rfl,by simp only;omega,D++M,R.drop 20,?_,hD.snoc (by omega) i4,?_,by rw[List.length_append];omega⟩⟩
   ·rw[i2]
    have:((D.length+20:Nat):Int)=(((D++M).length:Nat):Int):=by rw[List.length_append];omega
    rw[this]
   ·refine hF.trans ?_
    have:=((SameF.refl D).app (i3.app (SameF.refl (R.drop 20))))
    rw[hRs]at this
    simpa using this
  ·have e:decide (((D.length+20:Nat):Int)≤(l.length:Int))=false:=by rw[decide_eq_false_iff_not];omega
   simp only[e,cond_false]
   exact⟨(fun h=>by cases h),.inl ⟨_,rfl,D,R,rfl,hD,hF,by omega,hlen⟩⟩
 have hi:=zB D R [] (by simp only[List.length_append,List.length_nil];omega)
 have eN:((D.length+R.length:Nat):Int)=(l.length:Int):=by omega
 rw[List.append_nil,eN]at hi
 obtain⟨i1,M,i2,i3,i4⟩:=hi
 rw[List.append_nil]at i2
 have hM:=qy i3
 have hB0:Blk 20 (D++M):=k3.app (.last (by omega) i4)
 have hF0:SameF l (D++M):=k4.trans ((SameF.refl D).app i3)
 obtain⟨m1,r,m2,m3,m4⟩:okI (be (l.length:Int)) (bG (l.length:Int)) (Int.toNat (l.length:Int)+1) 0 (D++M,20)∧∃ r,an (be (l.length:Int)) (Int.toNat (l.length:Int)+1) 0 (D++M,20)=.inl r∧SameF l r∧Srt r:=by
  refine vB (fun s:List Deed×Int=>((l.length:Int) - s.2).toNat) (fun s:List Deed×Int=>∃ (L:List Deed) (n:Nat),s=(L,(n:Int))∧20≤n∧n<2 ^ 59∧Blk n L∧SameF l L) _ ?_ _ _ _ ⟨D++M,20,rfl,Nat.le_refl _,by omega,hB0,hF0⟩ (by simp only[Int.toNat_natCast];omega)
  rintro k s ⟨L,n,rfl,hn,hn2,hB,hF⟩
  have hLl:=qy hF
  by_cases h:n<l.length
  ·have e:decide ((n:Int) < (l.length:Int))=true:=by rw[decide_eq_true_eq];omega
   have w2:IntKind.i64.wrap (2*(n:Int))=((2*n:Nat):Int):=by rw[bj (by omega) (by omega)];omega
   have w2':IntKind.i64.wrap ((n:Int)*2)=((2*n:Nat):Int):=by rw[bj (by omega) (by omega)];omega
   obtain⟨p1,r,p2,D,R,rfl,p3,p4,p5,p6,p7⟩:okI (bb (l.length:Int) (L,(n:Int))) (b9 (l.length:Int) (L,(n:Int))) (Int.toNat (l.length:Int)+1) 0 (L,0,((2*n:Nat):Int))∧∃ r,an (bb (l.length:Int) (L,(n:Int))) (Int.toNat (l.length:Int)+1) 0 (L,0,((2*n:Nat):Int))=.inl r∧∃ D R,r=(((D.length:Nat):Int),D++R)∧Full (2*n) D∧Blk n R∧SameF l (D++R)∧R.length<2*n∧l.length=D.length+R.length:=by
    refine vB (fun s:List Deed×Int×Int=>((l.length:Int) - s.2.1).toNat) (fun s:List Deed×Int×Int=>∃ D R,s=(D++R,((D.length:Nat):Int),((D.length+2*n:Nat):Int))∧Full (2*n) D∧Blk n R∧SameF l (D++R)∧l.length=D.length+R.length) _ ?_ _ _ _ ⟨[],L,by simp,.nil,hB,hF,by simpa using hLl⟩ (by simp only[Int.toNat_natCast];omega)
    rintro k s ⟨D,R,rfl,hD,hR,hF,hlen⟩
    unfold b9 bb
    by_cases h:2*n≤R.length
    ·have e:decide (((D.length+2*n:Nat):Int)≤(l.length:Int))=true:=by rw[decide_eq_true_eq];omega
     obtain⟨B1,R1,rfl,b1,b2,b3⟩:=hR.split (by omega)
     rw[List.length_append]at h hlen
     obtain⟨B2,R2,rfl,c1,c2,c3⟩:=b3.split (by omega)
     rw[List.length_append]at h hlen
     obtain⟨i1,M,i2,i3,i4,i5⟩:=JP D B1 B2 R2 (by rw[←List.length_pos_iff];omega) (by rw[←List.length_pos_iff];omega) (by simp only[List.length_append];omega) b2 c2
     have e0:D++B1++B2++R2=D++(B1++(B2++R2)):=by simp
     have e1:((D.length+B1.length+B2.length:Nat):Int)=((D.length+2*n:Nat):Int):=by omega
     have e2:IntKind.i64.wrap ((D.length:Int)+(n:Int))=((D.length+B1.length:Nat):Int):=by rw[bj (by omega) (by omega)];omega
     rw[e0,e1]at i1 i2
     have w:IntKind.i64.wrap (((D.length+2*n:Nat):Int)+((2*n:Nat):Int))=(((D++M).length+2*n:Nat):Int):=by rw[bj (by omega) (by omega),List.length_append];omega
     simp only[e,cond_true,e2,w2,w]
     refine⟨fun _=>i1,.inr ⟨_,rfl,by simp only;omega,D++M,R2,?_,hD.snoc (by omega) i4,c3,?_,by rw[List.length_append];omega⟩⟩
     ·rw[i2]
      have:((D.length+2*n:Nat):Int)=(((D++M).length:Nat):Int):=by rw[List.length_append];omega
      rw[this]
     ·refine hF.trans ?_
      have:=(SameF.refl D).app (i3.app (SameF.refl R2))
      simpa using this
    ·have e:decide (((D.length+2*n:Nat):Int)≤(l.length:Int))=false:=by rw[decide_eq_false_iff_not];omega
     simp only[e,cond_false]
     exact⟨(fun h=>by cases h),.inl ⟨_,rfl,D,R,rfl,hD,hR,hF,by omega,hlen⟩⟩
   have wm:IntKind.i64.wrap ((D.length:Int)+(n:Int))=((D.length+n:Nat):Int):=by rw[bj (by omega) (by omega)];omega
   unfold bG be
   simp only[e,cond_true,w2,w2',p2,wm]
   by_cases hm:n<R.length
   ·have em:decide (((D.length+n:Nat):Int) < (l.length:Int))=true:=by rw[decide_eq_true_eq];omega
    obtain⟨B1,R1,rfl,b1,b2,b3⟩:=p4.split (by omega)
    rw[List.length_append]at hm p6 p7
    have b4:=b3.srt (by omega)
    obtain⟨i1,M,i2,i3,i4,i5⟩:=JP D B1 R1 [] (by rw[←List.length_pos_iff];omega) (by rw[←List.length_pos_iff];omega) (by simp only[List.length_append,List.length_nil];omega) b2 b4
    have e0:D++B1++R1++[]=D++(B1++R1):=by simp
    have e1:((D.length+B1.length+R1.length:Nat):Int)=(l.length:Int):=by omega
    have e2:((D.length+B1.length:Nat):Int)=((D.length+n:Nat):Int):=by omega
    rw[e0,e1,e2]at i1 i2
    rw[List.append_nil]at i2
    refine⟨fun _=>⟨p1,(fun z h=>by cases h),fun x hx=>by cases hx;simp only[wm];exact fun _=>i1⟩,.inr ⟨(D++M,((2*n:Nat):Int)),by simp only[em,cond_true];rw[i2],by simp only;omega,D++M,2*n,rfl,by omega,by omega,p3.app (.last (by omega) i4),p5.trans ((SameF.refl D).app i3)⟩⟩
   ·have em:decide (((D.length+n:Nat):Int) < (l.length:Int))=false:=by rw[decide_eq_false_iff_not];omega
    refine⟨fun _=>⟨p1,(fun z h=>by cases h),fun x hx=>by cases hx;simp only[wm,em];exact fun h=>by cases h⟩,.inr ⟨(D++R,((2*n:Nat):Int)),by simp only[em,cond_false],by simp only;omega,D++R,2*n,rfl,by omega,by omega,p3.app (.last (by omega) (p4.srt (by omega))),p5⟩⟩
  ·have e:decide ((n:Int) < (l.length:Int))=false:=by rw[decide_eq_false_iff_not];omega
   unfold bG be
   simp only[e,cond_false]
   exact⟨(fun h=>by cases h),.inl ⟨_,rfl,hF,hB.srt (by omega)⟩⟩
 unfold bw bL
 rw[k2]
 simp only[i2,m2]
 exact⟨⟨k1,(fun z h=>by cases h),fun x hx=>by cases hx;simp only[i2];exact⟨i1,m1,fun z h=>by rw[m2]at h;cases h⟩⟩,xQ m3 m4⟩
theorem CS (l:List Deed)(hl:l.length<2 ^ 58):a7 l∧bh l=stS l:=⟨fun _=>(zC l hl).1,(zC l hl).2⟩
end Go.Sx
end
section
namespace Go.Sx
open Go.Proofs
theorem JQ:∀ (l:List Deed) (n:Int),pc .int .deed (o8 l) n=l.any fun y=>y.no==n:=fun l n=>by
 have:∀ (r:List Deed),pc .int .deed (o8 r.reverse) n=r.reverse.any fun y=>y.no==n:=fun r=>by
  induction r with
  |nil=>rfl
  |cons x r ih=>
   rw[List.reverse_cons,ur,GX,ih,List.any_append]
   simp only[List.any_cons,List.any_nil,Bool.or_false]
   rw[Bool.or_comm]
   congr 1
   by_cases h:n=x.no
   ·subst h;simp
   ·have:¬x.no=n:=fun e=>h e.symm
    simp[h,this]
 simpa using this l.reverse
theorem xR {l:List Deed}(h:Asc l){y:Deed}(hy:y∈l):bY .int .deed (o8 l) y.no=y:=by
 have:∀ (r:List Deed),Asc r.reverse→∀ y∈r,bY .int .deed (o8 r.reverse) y.no=y:=fun r=>by
  induction r with
  |nil=>simp
  |cons x r ih=>
   intro hA y hy
   rw[List.reverse_cons]at hA ⊢
   obtain⟨a1,_,a3⟩:=List.pairwise_append.1 hA
   rw[ur,ku]
   rcases List.mem_cons.1 hy with rfl|hy
   ·rw[if_pos rfl]
   ·have:=a3 y (by simpa using hy) x (by simp)
    rw[if_neg (show ¬y.no=x.no by omega)]
    exact ih a1 y hy
 simpa using this l.reverse (by simpa using h) y (by simpa using hy)
structure Fit (d:District)(x:Deed):Prop where
 no0:0≤x.no
 no1:x.no≤1048576
 at0:0≤x.at_
 at1:x.at_≤4096
 kn0:0≤x.known
 kn1:x.known≤1048576
 kind:x.kind=1∨x.kind=2∨x.kind=3∨x.kind=4
 held:x.kind≠4→0≤x.right∧x.right< (d.rights.length:Int)∧(d.rights.getD (Int.toNat x.right) default).kind=1∧0≤x.since∧x.since< (d.farms.length:Int)
 pass:x.kind=1→0≤x.to∧x.to< (d.farms.length:Int)∧x.to≠x.since
 split:x.kind=2→PartsOk d x.parts
theorem JR {d:District}{m:List (Int×Deed)}{x:Deed}(hf:d.farms.length≤600)(hr:d.rights.length≤256)(h:cF d m x=true):Fit d x∧(x.kind=4→pc .int .deed m x.of_=true∧(bY .int .deed m x.of_).kind≠4∧(bY .int .deed m x.of_).known≤x.known):=by
 unfold cF at h
 cases h0:((((!(aG x.no 0 1048576)) ||(!(aG x.at_ 0 4096))) ||(!(aG x.known 0 1048576))) ||(!(iX x)))with
 |true=>rw[h0]at h;cases h
 |false=>
  rw[h0]at h
  simp only[Bool.or_eq_false_iff,Bool.not_eq_false']at h0
  obtain⟨⟨⟨a1,a2⟩,a3⟩,a4⟩:=h0
  rw[uq]at a1 a2 a3
  simp only[cond_false]at h
  by_cases k1:x.kind=1
  ·rw[show(x.kind==1)=true by simp[k1]]at h
   simp only[cond_true,Bool.and_eq_true,beq_iff_eq,bne_iff_ne]at h
   obtain⟨⟨⟨⟨b1,b2⟩,b3⟩,b4⟩,b5⟩:=h
   rw[AO _ (by omega)]at b1 b3 b4
   exact⟨⟨a1.1,a1.2,a2.1,a2.2,a3.1,a3.2,.inl k1,fun _=>⟨b1.1,b1.2,b2,b3.1,b3.2⟩,fun _=>⟨b4.1,b4.2,b5⟩,fun e=>by omega⟩,fun e=>by omega⟩
  ·rw[show(x.kind==1)=false by simpa using k1]at h
   by_cases k2:x.kind=2
   ·rw[show(x.kind==2)=true by simp[k2]]at h
    simp only[cond_true,cond_false,Bool.and_eq_true,beq_iff_eq]at h
    obtain⟨⟨⟨b1,b2⟩,b3⟩,b4⟩:=h
    rw[AO _ (by omega)]at b1 b3
    exact⟨⟨a1.1,a1.2,a2.1,a2.2,a3.1,a3.2,.inr (.inl k2),fun _=>⟨b1.1,b1.2,b2,b3.1,b3.2⟩,fun e=>by omega,fun _=>Jw hf b4⟩,fun e=>by omega⟩
   ·rw[show(x.kind==2)=false by simpa using k2]at h
    by_cases k3:x.kind=3
    ·rw[show(x.kind==3)=true by simp[k3]]at h
     simp only[cond_true,cond_false,Bool.and_eq_true,beq_iff_eq]at h
     obtain⟨⟨b1,b2⟩,b3⟩:=h
     rw[AO _ (by omega)]at b1 b3
     exact⟨⟨a1.1,a1.2,a2.1,a2.2,a3.1,a3.2,.inr (.inr (.inl k3)),fun _=>⟨b1.1,b1.2,b2,b3.1,b3.2⟩,fun e=>by omega,fun e=>by omega⟩,fun e=>by omega⟩
    ·rw[show(x.kind==3)=false by simpa using k3]at h
     by_cases k4:x.kind=4
     ·rw[show(x.kind==4)=true by simp[k4]]at h
      simp only[cond_true,cond_false,Bool.and_eq_true,bne_iff_ne,decide_eq_true_eq]at h
      obtain⟨⟨b1,b2⟩,b3⟩:=h
      exact⟨⟨a1.1,a1.2,a2.1,a2.2,a3.1,a3.2,.inr (.inr (.inr k4)),fun e=>absurd k4 e,fun e=>by omega,fun e=>by omega⟩,fun _=>⟨b1,b2,b3⟩⟩
     ·rw[show(x.kind==4)=false by simpa using k4]at h
      simp only[cond_false]at h
      cases h
structure Deeds (d:District)(l:List Deed):Prop where
 right:Right1 d
 len:l.length≤512
 asc:Asc l
 fit:∀ x∈l,Fit d x
 void:∀ x∈l,x.kind=4→∃ y∈l,y.no=x.of_∧y.kind≠4∧y.known≤x.known∧y.no<x.no
theorem FL {d:District}:∀ {r b:List Deed},Chk d b r→∀ x∈r,∃ b',(∃ t,b++r=b'++x::t)∧cF d (o8 b') x=true
 | [],_,_,x,hx=>by cases hx
 |y::r,b,⟨h1,h2,h3⟩,x,hx=>by
  rcases List.mem_cons.1 hx with rfl|hx
  ·exact⟨b,⟨r,rfl⟩,h2⟩
  ·obtain⟨b',⟨t,e⟩,h⟩:=FL h3 x hx
   exact⟨b',⟨t,by rw[←e];simp⟩,h⟩
theorem tC {d:District}{l:List Deed}(h:aN d l=0):Deeds d l:=by
 obtain⟨h1,h2,_,h4⟩:=(qx d l).1 h
 have hr:=lj (d:=d) (by rw[h1];rfl)
 have hA:=Chk.asc List.Pairwise.nil h4
 rw[List.nil_append]at hA
 have hf:∀ x∈l,∃ b',(∃ t,l=b'++x::t)∧cF d (o8 b') x=true:=fun x hx=>by
  have:=FL h4 x hx
  simpa using this
 refine⟨hr,h2,hA,fun x hx=>?_,fun x hx hk=>?_⟩
 ·obtain⟨b,_,h⟩:=hf x hx
  exact(JR hr.farms hr.rights h).1
 ·obtain⟨b,⟨t,e⟩,h⟩:=hf x hx
  obtain⟨q1,q2,q3⟩:=(JR hr.farms hr.rights h).2 hk
  rw[JQ,List.any_eq_true]at q1
  obtain⟨y,hy,hn⟩:=q1
  have hn:y.no=x.of_:=by simpa using hn
  rw[e]at hA
  have hAb:Asc b:=(List.pairwise_append.1 hA).1
  rw[←hn,xR hAb hy]at q2 q3
  exact⟨y,by rw[e];exact List.mem_append_left _ hy,hn,q2,q3,(List.pairwise_append.1 hA).2.2 y hy x List.mem_cons_self⟩
def r7 (l:List Deed)(known n:Int):Bool:=l.any fun v=>v.kind==4&&decide (v.known≤known)&&v.of_==n
def A4 (l:List Deed)(hour known:Int):List Deed:=l.filter fun x=>!((((x.kind==4) ||(decide (x.known > known))) ||(decide (x.at_ > hour))) ||r7 l known x.no)
theorem JS (l:List Deed)(known:Int):∃ m,an (dL l known) l.length 0 []=.inr m∧∀ n,bY .int .bool m n=r7 l known n:=by
 obtain⟨r,h1,h2⟩:=oG (step:=dL l known) (fun k m=>∀ n,bY .int .bool m n=r7 (l.take k) known n) l.length 0 ([]:List (Int×Bool)) (fun n=>by simp[bY,fg,cV,r7]) (fun j s _ hj hs=>by
  rw[Nat.zero_add]at hj
  unfold dL
  rw[cN l default hj]
  cases hc:(((l.getD j (default:Deed)).kind==4)&&(decide ((l.getD j (default:Deed)).known≤known)))with
  |true=>
   refine⟨_,rfl,fun n=>?_⟩
   rw[ku]
   unfold r7 at hs ⊢
   rw[List.any_append]
   simp only[List.any_cons,List.any_nil,Bool.or_false,hc,Bool.true_and]
   by_cases hn:n=(l.getD j (default:Deed)).of_
   ·subst hn;simp
   ·rw[if_neg hn,hs]
    have:((l.getD j (default:Deed)).of_==n)=false:=by simp only[beq_eq_false_iff_ne];exact fun e=>hn e.symm
    rw[this,Bool.or_false]
  |false=>
   refine⟨_,rfl,fun n=>?_⟩
   rw[hs]
   unfold r7
   rw[List.any_append]
   simp only[List.any_cons,List.any_nil,Bool.or_false,hc,Bool.false_and])
 refine⟨r,h1,fun n=>?_⟩
 rw[h2,Nat.zero_add,List.take_length]
theorem JT (K G:List Deed):((wc .deed (K++G) (K.length:Int) ((K++G).length:Int)).take K.length)=K:=by
 unfold wc
 simp only[Int.toNat_natCast]
 split
 ·rename_i h
  rw[List.length_append]at h
  have:G=[]:=List.eq_nil_of_length_eq_zero (by omega)
  subst this;simp
 ·simp
theorem CT {α:Type}{step:Nat→Unit→Int⊕Unit}(l:List α)(d:α)(P:α→Bool)(h:∀ k,k<l.length→step k ()=bif P (l.getD k d)then .inl (k:Int)else .inr ()):(an step l.length 0 ()=.inr ()∧∀ x∈l,P x=false)∨∃ K x R,l=K++x::R∧an step l.length 0 ()=.inl (K.length:Int)∧P x=true∧∀ y∈K,P y=false:=by
 have key:∀ (R K:List α),l=K++R→(∀ y∈K,P y=false)→(an step R.length K.length ()=.inr ()∧∀ x∈l,P x=false)∨∃ K' x R',l=K'++x::R'∧an step R.length K.length ()=.inl (K'.length:Int)∧P x=true∧∀ y∈K',P y=false:=fun R=>by
  induction R with
  |nil=>exact fun K h hK=>.inl ⟨rfl,fun x hx=>hK x (by rw[h]at hx;simpa using hx)⟩
  |cons x R ih=>
   intro K hl hK
   have e:=h K.length (by rw[hl];simp)
   have g:l.getD K.length d=x:=by rw[hl];simp[List.getD_eq_getElem?_getD]
   rw[g]at e
   simp only[List.length_cons,an,e]
   cases hx:P x with
   |true=>exact .inr ⟨K,x,R,hl,rfl,hx,hK⟩
   |false=>
    simp only[cond_false]
    have:=ih (K++[x]) (by rw[hl];simp) (fun y hy=>by
     rcases List.mem_append.1 hy with hy|hy
     ·exact hK y hy
     ·simp at hy;subst hy;exact hx)
    rw[List.length_append]at this
    exact this
 exact key l [] rfl (by simp)
theorem G6 (l:List Deed)(known hour:Int)(v:List (Int×Bool))(hl:l.length<2 ^ 47):aV l known hour v∧aS l known hour v=l.filter fun x=>!aP x known hour v:=by
 have hI:(ai l known hour v= -1∧∀ x∈l,aP x known hour v=false)∨∃ K x R,l=K++x::R∧ai l known hour v=(K.length:Int)∧aP x known hour v=true∧∀ y∈K,aP y known hour v=false:=by
  unfold ai
  rcases CT (step:=c7 l known hour v) l default (fun x=>aP x known hour v) (fun k _=>rfl)with⟨e,h⟩ | ⟨K,x,R,h1,e,h2,h3⟩
  ·rw[e];exact .inl ⟨rfl,h⟩
  ·rw[e];exact .inr ⟨K,x,R,h1,rfl,h2,h3⟩
 unfold aV aS
 rcases hI with⟨e,h⟩ | ⟨K,x,R,hl0,e,h2,h3⟩
 ·rw[e]
  refine⟨(fun h=>by cases h),?_⟩
  simp only[BEq.rfl,cond_true]
  exact(List.filter_eq_self.2 fun x hx=>by rw[h x hx];rfl).symm
 ·have b:((K.length:Int) == -1)=false:=by simp only[beq_eq_false_iff_ne];omega
  have hlen:l.length=K.length+(R.length+1):=by rw[hl0];simp
  have w:IntKind.i64.wrap ((K.length:Int)+1)=((K.length+1:Nat):Int):=by rw[bj (by omega) (by omega)];omega
  rw[e,w]
  simp only[b,cond_false]
  obtain⟨k1,r,k2,K',G',rfl,k3⟩:okI (aJ l known hour v) (bC l known hour v) (l.length+1) 0 (l,(K.length:Int),((K.length+1:Nat):Int))∧∃ r,an (aJ l known hour v) (l.length+1) 0 (l,(K.length:Int),((K.length+1:Nat):Int))=.inl r∧∃ K' G',r=((K'.length:Int),K'++G')∧K'=l.filter fun x=>!aP x known hour v:=by
   refine vB (fun s:List Deed×Int×Int=>((l.length:Int) - s.2.2).toNat) (fun s:List Deed×Int×Int=>∃ K' g G' R',s=(K'++g::(G'++R'),(K'.length:Int),((K'.length+(G'.length+1):Nat):Int))∧K'.length+(G'.length+1)+R'.length=l.length∧(l.filter fun x=>!aP x known hour v)=K'++R'.filter fun x=>!aP x known hour v) _ ?_ _ _ _ ⟨K,x,[],R,by rw[hl0];simp,by rw[hlen];simp;omega,?_⟩ (by simp only;omega)
   ·rintro k s ⟨K',g,G',R',rfl,hn,hF⟩
    have hL:(K'++g::(G'++R')).length=l.length:=by rw[←hn];simp;omega
    unfold bC aJ
    simp only[hL]
    cases R' with
    |nil=>
     have e1:decide (((K'.length+(G'.length+1):Nat):Int) < (l.length:Int))=false:=by rw[decide_eq_false_iff_not];simp only[List.length_nil]at hn;omega
     simp only[e1,cond_false]
     exact⟨(fun _ h=>by cases h),.inl ⟨_,rfl,K',g::(G'++[]),rfl,by simpa using hF.symm⟩⟩
    |cons y R'=>
     simp only[List.length_cons]at hn
     have e1:decide (((K'.length+(G'.length+1):Nat):Int) < (l.length:Int))=true:=by rw[decide_eq_true_eq];omega
     have gy:(K'++g::(G'++y::R')).getD (K'.length+(G'.length+1)) default=y:=by
      have:K'++g::(G'++y::R')=(K'++g::G')++y::R':=by simp
      rw[this];exact je _ _ _ _ (by simp)
     have w1:IntKind.i64.wrap (((K'.length+(G'.length+1):Nat):Int)+1)=((K'.length+(G'.length+1)+1:Nat):Int):=by rw[bj (by omega) (by omega)];omega
     have w2:IntKind.i64.wrap ((K'.length:Int)+1)=((K'.length+1:Nat):Int):=by rw[bj (by omega) (by omega)];omega
     simp only[e1,cond_true,Int.toNat_natCast,gy,w1,w2]
     refine⟨fun _ _=>⟨by omega,fun _=>by omega⟩,.inr ?_⟩
     cases hy:aP y known hour v with
     |false=>
      obtain⟨g',G2,hG⟩:∃ g' G2,G'++[y]=g'::G2:=by
       cases G' with
       |nil=>exact⟨y,[],rfl⟩
       |cons a b=>exact⟨a,b++[y],rfl⟩
      have hGl:G'.length+1=G2.length+1:=by have:=congrArg List.length hG;simpa using this
      refine⟨_,rfl,by simp only;omega,K'++[y],g',G2,R',?_,?_,?_⟩
      ·rw[oK K' g y _ rfl]
       have h1:g'::(G2++R')=G'++y::R':=by rw[←List.cons_append,←hG];simp
       rw[List.append_assoc,h1,Prod.mk.injEq,Prod.mk.injEq]
       refine⟨by simp,by simp,?_⟩
       rw[List.length_append]
       simp only[List.length_cons,List.length_nil]
       omega
      ·rw[List.length_append];simp only[List.length_cons,List.length_nil];omega
      ·rw[hF,List.filter_cons_of_pos (by rw[hy];rfl)];simp
     |true=>
      refine⟨_,rfl,by simp only;omega,K',g,G'++[y],R',?_,by rw[List.length_append];simp only[List.length_cons,List.length_nil];omega,?_⟩
      ·have:(G'++[y])++R'=G'++y::R':=by simp
       rw[this,List.length_append,Prod.mk.injEq,Prod.mk.injEq]
       exact⟨rfl,rfl,by simp only[List.length_cons,List.length_nil];omega⟩
      ·rw[hF,List.filter_cons_of_neg (by rw[hy];simp)]
   ·rw[hl0,List.filter_append,List.filter_cons_of_neg (by rw[h2];simp)]
    congr 1
    exact List.filter_eq_self.2 fun y hy=>by rw[h3 y hy];rfl
  refine⟨fun _=>⟨k1,u4 (Q:=fun _=>True) ⟨_,k2,trivial⟩,fun z hz=>?_⟩,?_⟩
  ·rw[k2]at hz;cases hz
   have:(wc .deed (K'++G') (K'.length:Int) ((K'++G').length:Int)).length=(K'++G').length:=by
    unfold wc;simp only[Int.toNat_natCast];split
    ·rfl
    ·simp <;>omega
   simp only[this]
   simp only[List.length_append]
   omega
  ·rw[k2]
   simp only[Int.toNat_natCast,List.drop_zero]
   rw[JT,k3]
theorem CU (l:List Deed)(hour known:Int)(hl:l.length≤512):eM l hour known∧cG l hour known=stS (A4 l hour known):=by
 obtain⟨m,e,hm⟩:=JS l known
 have hp:∀ x,aP x known hour m=((((x.kind==4) ||(decide (x.known > known))) ||(decide (x.at_ > hour))) ||r7 l known x.no):=fun x=>by
  unfold aP;rw[hm]
 obtain⟨d1,d2⟩:=G6 l known hour m (by omega)
 have d3:(l.filter fun x=>!aP x known hour m)=A4 l hour known:=by unfold A4;simp only[hp]
 rw[d3]at d2
 have hlen:(A4 l hour known).length≤l.length:=List.length_filter_le _ _
 obtain⟨s1,s2⟩:=CS (A4 l hour known) (by omega)
 unfold eM cG
 rw[e]
 refine⟨fun _ z hz=>?_,?_⟩
 ·cases hz
  rw[d2]
  exact⟨by unfold fG;omega,d1,s1⟩
 ·simp only[d2,s2]
theorem qz (l:List Deed):az l=l:=by
 obtain⟨r,h1,h2⟩:=oG (step:=bu l) (fun k s=>s=l.take k) l.length 0 ([]:List Deed) (by simp) (fun j s _ hj hs=>⟨_,rfl,by rw[cN l default (by omega),hs]⟩)
 unfold az
 rw[h1]
 simp only[h2,Nat.zero_add,List.take_length]
theorem JU (l:List Deed):bW l ((az l).map th):=fun _=>by
 rw[qz]
 refine⟨vL (fun k s=>s=l.take k) _ _ _ (by simp) (fun j s _ hj hs=>⟨?_,fun s' h=>?_⟩),fun s h=>?_⟩
 ·rw[Nat.zero_add]at hj
  unfold cj
  rw[hs,List.length_take,Nat.min_eq_left (by omega),List.getElem?_map,List.getElem?_eq_getElem hj,gm l _ hj]
  rfl
 ·rw[Nat.zero_add]at hj
  unfold bu at h
  cases h
  rw[cN l default hj,hs]
 ·have:=qz l
  unfold az at this
  rw[h]at this
  simp only at this
  rw[this,List.length_map]
end Go.Sx
end
section
namespace Go.Sx
open Go.Proofs
theorem FM {n d:Int}(hd:1≤d)(hd2:d≤1073741824)(h1: -1152921504606846976≤n)(h2:n≤1152921504606846976):kn n d=n / d:=by
 unfold kn
 have e1:Int.tmod (Int.tmod n d+d) d=n % d:=by
  have a1: -d<Int.tmod n d:=Int.lt_tmod_of_pos n (by omega)
  rw[Int.tmod_eq_emod_of_nonneg (by omega),Int.add_emod_right]
  rw[Int.tmod_eq_emod]
  split
  ·show(n % d - 0) % d=n % d
   rw[Int.sub_zero,Int.emod_emod]
  ·have:n % d - (d.natAbs:Int)=n % d+d*(-1):=by omega
   rw[this,Int.add_mul_emod_self_left,Int.emod_emod]
 have a1: -d<Int.tmod n d:=Int.lt_tmod_of_pos n (by omega)
 have a2:Int.tmod n d<d:=Int.tmod_lt_of_pos n (by omega)
 rw[bj (by omega: -9223372036854775808≤Int.tmod n d+d) (by omega),e1]
 have b1:=Int.emod_nonneg n (by omega:d≠0)
 have b2:=Int.emod_lt_of_pos n (by omega:0<d)
 rw[bj (by omega: -9223372036854775808≤n - n % d) (by omega)]
 have e2:n - n % d=d*(n / d):=by have:=Int.mul_ediv_add_emod n d;omega
 rw[e2,Int.mul_tdiv_cancel_left _ (by omega)]
 have c1:n / d≤1152921504606846976:=by
  have:=Int.ediv_le_ediv (by omega:0<d) h2
  have:=Int.ediv_le_self (b:=d) (by omega:(0:Int)≤1152921504606846976)
  omega
 have c2: -1152921504606846976≤n / d:=by
  rw[Int.le_ediv_iff_mul_le (by omega)]
  have:=Int.mul_le_mul_of_nonneg_left (by omega:1≤d) (by omega:(0:Int)≤1152921504606846976)
  omega
 exact bj (by omega) (by omega)
def gC {κ υ:Type}(l:List (κ×υ)):List κ:=l.map fun p=>p.1
theorem zD {κ υ:Type}[DecidableEq κ]:∀ {l:List (κ×υ)} {x:κ},x ∉ gC l→fg l x=none
 | [],_,_=>rfl
 |(a,b)::r,x,h=>by
  unfold fg
  rw[if_neg (fun e=>h (by simp[gC,e]))]
  exact zD fun hm=>h (by simp only[gC,List.map_cons,List.mem_cons]at hm ⊢;exact .inr hm)
theorem xS {κ υ:Type}[DecidableEq κ]:∀ {l:List (κ×υ)},(gC l).Nodup→∀ {x:κ} {y:υ},fg l x=some y↔(x,y)∈l
 | [],_,x,y=>by simp[fg]
 |(a,b)::r,h,x,y=>by
  have h':=List.nodup_cons.1 h
  unfold fg
  by_cases e:x=a
  ·subst e
   rw[if_pos rfl]
   simp only[Option.some.injEq,List.mem_cons,Prod.mk.injEq,true_and]
   refine⟨fun h=>.inl h.symm,fun h=>?_⟩
   rcases h with h|h
   ·exact h.symm
   ·exact absurd (List.mem_map_of_mem (f:=fun p:κ×υ=>p.1) h) h'.1
  ·rw[if_neg e,xS h'.2]
   simp only[List.mem_cons,Prod.mk.injEq,e,false_and,false_or]
theorem oe {κ υ:Type}[DecidableEq κ](x:κ)(y:υ):∀ (l:List (κ×υ)),(gC l).Nodup→(gC (se l x y)).Nodup∧∀ z,z∈gC (se l x y)→z=x∨z∈gC l
 | [],_=>by simp[se,gC]
 |(a,b)::r,h=>by
  have h':=List.nodup_cons.1 h
  unfold se
  by_cases e:x=a
  ·subst e
   rw[if_pos rfl]
   exact⟨h,fun z hz=>.inr hz⟩
  ·rw[if_neg e]
   obtain⟨g1,g2⟩:=oe x y r h'.2
   refine⟨List.nodup_cons.2 ⟨fun hm=>?_,g1⟩,fun z hz=>?_⟩
   ·rcases g2 _ hm with h3|h3
    ·exact e h3.symm
    ·exact h'.1 h3
   ·rcases List.mem_cons.1 hz with rfl|hz
    ·exact .inr List.mem_cons_self
    ·rcases g2 z hz with h3|h3
     ·exact .inl h3
     ·exact .inr (List.mem_cons_of_mem _ h3)
theorem uz {κ υ:Type}[DecidableEq κ](x:κ):∀ (l:List (κ×υ)),(gC l).Nodup→(gC (tO l x)).Nodup∧(∀ z,z∈gC (tO l x)→z∈gC l)∧∀ z,fg (tO l x) z=if z=x then none else fg l z
 | [],_=>by simp[tO,gC,fg]
 |(a,b)::r,h=>by
  have h':=List.nodup_cons.1 h
  unfold tO
  by_cases e:x=a
  ·subst e
   rw[if_pos rfl]
   refine⟨h'.2,fun z hz=>List.mem_cons_of_mem _ hz,fun z=>?_⟩
   by_cases hz:z=x
   ·subst hz;rw[if_pos rfl];exact zD h'.1
   ·rw[if_neg hz];simp only[fg,if_neg hz]
  ·rw[if_neg e]
   obtain⟨g1,g2,g3⟩:=uz x r h'.2
   refine⟨List.nodup_cons.2 ⟨fun hm=>h'.1 (g2 _ hm),g1⟩,fun z hz=>?_,fun z=>?_⟩
   ·rcases List.mem_cons.1 hz with rfl|hz
    ·exact List.mem_cons_self
    ·exact List.mem_cons_of_mem _ (g2 z hz)
   ·simp only[fg,g3]
    by_cases hz:z=a
    ·subst hz;rw[if_pos rfl,if_neg (fun e2=>e e2.symm),if_pos rfl]
    ·simp only[if_neg hz]
def tot:Nat→(Int→Int)→Int
 |0,_=>0
 |n+1,g=>tot n g+g (n:Int)
def gD (g:Int→Int)(f v:Int):Int→Int:=fun x=>if x=f then v else g x
theorem CV {g h:Int→Int}:∀ {n:Nat},(∀ f:Int,0≤f→f< (n:Int)→g f=h f)→tot n g=tot n h
 |0,_=>rfl
 |n+1,e=>by unfold tot;rw[CV (n:=n) fun f h1 h2=>e f h1 (by omega),e n (by omega) (by omega)]
theorem oL (g:Int→Int)(f v:Int):∀ (n:Nat),0≤f→f< (n:Int)→tot n (gD g f v)=tot n g - g f+v
 |0,h0,h1=>by omega
 |n+1,h0,h1=>by
  unfold tot
  by_cases h:f=(n:Int)
  ·subst h
   rw[CV (g:=gD g n v) (h:=g) fun x _ hx=>by unfold gD;rw[if_neg (by omega)]]
   unfold gD;rw[if_pos rfl];omega
  ·rw[oL g f v n h0 (by omega)]
   unfold gD;rw[if_neg (fun e=>h e.symm)];omega
theorem Ep {g:Int→Int}(h:∀ f,0≤g f):∀ n,0≤tot n g
 |0=>Int.le_refl _
 |n+1=>by have:=Ep h n;have:=h n;unfold tot;omega
theorem A5 {g:Int→Int}(h:∀ f,0≤g f):∀ (n:Nat) (f:Int),0≤f→f< (n:Int)→g f≤tot n g
 |0,f,h0,h1=>by omega
 |n+1,f,h0,h1=>by
  unfold tot
  have h2:=Ep h n
  by_cases e:f=(n:Int)
  ·subst e;omega
  ·have:=A5 h n f h0 (by omega);have:=h n;omega
structure Good (F:Nat)(L:Int)(g:Int→Int):Prop where
 nn:∀ f,0≤g f
 sup:∀ f,g f≠0→0≤f∧f< (F:Int)
 tot:tot F g≤L
theorem Good.le {F:Nat}{L:Int}{g:Int→Int}(h:Good F L g)(hL:0≤L)(f:Int):g f≤L:=by
 by_cases e:g f=0
 ·omega
 ·obtain⟨a,b⟩:=h.sup f e
  exact Int.le_trans (A5 h.nn F f a b) h.tot
theorem Good.put {F:Nat}{L M:Int}{g:Int→Int}(h:Good F L g){f v:Int}(h0:0≤f)(h1:f< (F:Int))(hv:0≤v)(hM:Go.Sx.tot F g - g f+v≤M):Good F M (gD g f v) where
 nn:=fun x=>by unfold gD;split;exact hv;exact h.nn x
 sup:=fun x hx=>by
  unfold gD at hx
  split at hx
  ·rename_i e;rw[e];exact⟨h0,h1⟩
  ·exact h.sup x hx
 tot:=by rw[oL g f v F h0 h1];exact hM
def loP (p:Part)(n:Int):Int:=p.share.n*n / p.share.d
theorem JV {a:Ratio}(h:RatioOk a){n:Int}(h0:0≤n)(h1:n≤1073741824):(eA a n).1=a.n*n / a.d∧(eA a n).2.1= -(-(a.n*n) / a.d)∧(eA a n).2.2=0:=by
 have hb: -1152921504606846976≤a.n*n∧a.n*n≤1152921504606846976:=by
  have:(a.n*n).natAbs≤1073741824*1073741824:=by rw[Int.natAbs_mul];exact Nat.mul_le_mul (by have:=h.n0;have:=h.n;omega) (by omega)
  omega
 have hd:=h.d1;have hd2:=h.d;have hn0:=h.n0;have hn1:=h.n
 unfold eA
 rw[(eY a).2 h]
 have e:(decide (n< -1073741824) ||decide (n > 1073741824))=false:=by simp;omega
 simp only[bne_self_eq_false,cond_false,e]
 have ee: -a.n*n= -(a.n*n):=Int.neg_mul _ _
 rw[bj (n:=a.n*n) (by omega) (by omega),bj (n:=0 - a.n) (by omega) (by omega),show 0 - a.n= -a.n by omega,ee,bj (n:= -(a.n*n)) (by omega) (by omega),FM hd hd2 (by omega) (by omega),FM hd hd2 (by omega) (by omega)]
 refine⟨rfl,?_,trivial⟩
 have c1: -(a.n*n) / a.d≤1152921504606846976:=by
  have:=Int.ediv_le_ediv (by omega:0<a.d) (by omega: -(a.n*n)≤1152921504606846976)
  have:=Int.ediv_le_self (b:=a.d) (by omega:(0:Int)≤1152921504606846976)
  omega
 have c2: -1152921504606846976≤ -(a.n*n) / a.d:=by
  rw[Int.le_ediv_iff_mul_le (by omega)]
  have:=Int.mul_le_mul_of_nonneg_left (by omega:1≤a.d) (by omega:(0:Int)≤1152921504606846976)
  omega
 rw[bj (by omega) (by omega)];omega
theorem JW {p:Part}(h:RatioOk p.share)(hp:0<p.share.n){n:Int}(h0:0≤n):0≤loP p n:=by
 unfold loP
 exact Int.ediv_nonneg (Int.mul_nonneg (by omega) h0) (by have:=h.d1;omega)
theorem JX {x d:Rat}(hd:0<d)(h:0≤x*d):0≤x:=by
 rcases Classical.em (0≤x)with h1|h1
 ·exact h1
 ·have h2:0< -x:=by grind
  have h3:=Rat.mul_pos h2 hd
  grind
theorem PK {p:Part}(h:RatioOk p.share)(n:Int):((loP p n:Int):Rat)≤rv p.share*(n:Rat)∧rv p.share*(n:Rat)≤((loP p n:Int):Rat)+1:=by
 have hd:=h.d1
 have d0:(0:Rat) < (p.share.d:Rat):=by exact_mod_cast (by omega:(0:Int) <p.share.d)
 have dn:(p.share.d:Rat)≠0:=ll (by omega)
 have e1:rv p.share*(p.share.d:Rat)=(p.share.n:Rat):=by unfold rv;exact Rat.div_mul_cancel dn
 have q:=Int.mul_ediv_add_emod (p.share.n*n) p.share.d
 have q1:=Int.emod_nonneg (p.share.n*n) (by omega:p.share.d≠0)
 have q2:=Int.emod_lt_of_pos (p.share.n*n) (by omega:0<p.share.d)
 have r1:p.share.d*loP p n≤p.share.n*n:=by unfold loP;omega
 have r2:p.share.n*n≤p.share.d*loP p n+p.share.d:=by unfold loP;omega
 have r1':(p.share.d:Rat)*((loP p n:Int):Rat)≤(p.share.n:Rat)*(n:Rat):=by exact_mod_cast r1
 have r2':(p.share.n:Rat)*(n:Rat)≤(p.share.d:Rat)*((loP p n:Int):Rat)+(p.share.d:Rat):=by exact_mod_cast r2
 rw[←e1]at r1' r2'
 generalize ((loP p n:Int):Rat)=lo at *
 generalize (n:Rat)=m at *
 generalize rv p.share=v at *
 generalize (p.share.d:Rat)=d at *
 constructor
 ·have:=JX (x:=v*m - lo) d0 (by grind)
  grind
 ·have:=JX (x:=lo+1 - v*m) d0 (by grind)
  grind
def dg (l:List Part)(n:Int):Int:=(l.map fun p=>loP p n).sum
theorem PL {l:List Part}(h:∀ p∈l,RatioOk p.share)(n:Int):((dg l n:Int):Rat)≤tq l*(n:Rat)∧tq l*(n:Rat)≤((dg l n+(l.length:Int):Int):Rat):=by
 induction l with
 |nil=>simp[dg,tq,Rat.zero_mul]
 |cons p r ih=>
  obtain⟨i1,i2⟩:=ih fun q hq=>h q (List.mem_cons_of_mem _ hq)
  obtain⟨j1,j2⟩:=PK (h p List.mem_cons_self) n
  have e:dg (p::r) n=loP p n+dg r n:=by simp[dg]
  have e1:((dg (p::r) n:Int):Rat)=((loP p n:Int):Rat)+((dg r n:Int):Rat):=by rw[e];exact_mod_cast rfl
  have e2:((dg (p::r) n+((p::r).length:Int):Int):Rat)=(((loP p n:Int):Rat)+1)+((dg r n+(r.length:Int):Int):Rat):=by
   have:dg (p::r) n+((p::r).length:Int)=(loP p n+1)+(dg r n+(r.length:Int)):=by rw[e];simp only[List.length_cons];omega
   rw[this];exact_mod_cast rfl
  rw[e1,e2]
  simp only[tq]
  generalize ((loP p n:Int):Rat)=a at *
  generalize ((dg r n:Int):Rat)=b at *
  generalize ((dg r n+(r.length:Int):Int):Rat)=c at *
  generalize (n:Rat)=m at *
  generalize rv p.share=v at *
  generalize tq r=w at *
  constructor <;>grind
theorem FN {d:District}{l:List Part}(h:PartsOk d l)(n:Int):dg l n≤n∧n≤dg l n+(l.length:Int):=by
 obtain⟨h1,h2⟩:=PL (fun p hp=>(h.part p hp).share) n
 rw[h.sum,Rat.one_mul]at h1 h2
 exact⟨by exact_mod_cast h1,by exact_mod_cast h2⟩
end Go.Sx
end
section
namespace Go.Sx
open Go.Proofs
end Go.Sx
end
section
namespace Go.Sx
open Go.Proofs
end Go.Sx
end
section
namespace Go.Sx
open Go.Proofs
def tD (l:List Part)(n:Int)(g:Int→Int):Int→Int:=l.foldl (fun g p=>gD g p.farm (g p.farm+loP p n)) g
def og (l:List Part)(g:Int→Int):Int→Int:=l.foldl (fun g p=>gD g p.farm (g p.farm+1)) g
def xT (l:List Part)(n:Int)(g:Int→Int):Int→Int:=og (l.take (n - dg l n).toNat) (tD l n g)
def A6 (x:Deed)(g:Int→Int):Int→Int:=
 if g x.since=0 then g else
 if x.kind=1 then gD (gD g x.since 0) x.to (gD g x.since 0 x.to+g x.since)else
 if x.kind=2 then xT x.parts (g x.since) (gD g x.since 0)else gD g x.since 0
theorem G7 (l:List Part)(p:Part)(n:Int)(g:Int→Int):tD (l++[p]) n g=gD (tD l n g) p.farm (tD l n g p.farm+loP p n):=by
 unfold tD;rw[List.foldl_append];rfl
theorem Er (l:List Part)(p:Part)(g:Int→Int):og (l++[p]) g=gD (og l g) p.farm (og l g p.farm+1):=by
 unfold og;rw[List.foldl_append];rfl
theorem xU (l:List Part)(p:Part)(n:Int):dg (l++[p]) n=dg l n+loP p n:=by
 unfold dg;simp
def PFit (F:Nat)(l:List Part):Prop:= ∀ p∈l,0≤p.farm∧p.farm< (F:Int)∧RatioOk p.share∧0<p.share.n
theorem PartsOk.fit {d:District}{l:List Part}(h:PartsOk d l):PFit d.farms.length l:=fun p hp=>⟨(h.part p hp).f0,(h.part p hp).f1,(h.part p hp).share,(h.part p hp).pos⟩
theorem qA {F:Nat}{n:Int}(h0:0≤n):∀ (l:List Part) (g:Int→Int) (M:Int),PFit F l→Good F M g→Good F (M+dg l n) (tD l n g)∧tot F (tD l n g)=tot F g+dg l n
 | [],g,M,_,hg=>by simpa[tD,dg]using hg
 |p::l,g,M,hl,hg=>by
  obtain⟨a,b,c,e⟩:=hl p List.mem_cons_self
  have hlo:=JW c e h0
  have hgf:=hg.nn p.farm
  have h1:Good F (M+loP p n) (gD g p.farm (g p.farm+loP p n)):=hg.put a b (by omega) (by have:=hg.tot;omega)
  obtain⟨q1,q2⟩:=qA h0 l _ _ (fun q hq=>hl q (List.mem_cons_of_mem _ hq)) h1
  have e1:dg (p::l) n=loP p n+dg l n:=by simp[dg]
  rw[oL g p.farm _ F a b]at q2
  rw[e1]
  refine⟨by rw[show M+(loP p n+dg l n)=M+loP p n+dg l n by omega];exact q1,?_⟩
  show tot F (tD l n (gD g p.farm (g p.farm+loP p n)))=_
  rw[q2];omega
theorem r8 {F:Nat}:∀ (l:List Part) (g:Int→Int) (M:Int),PFit F l→Good F M g→Good F (M+l.length) (og l g)∧tot F (og l g)=tot F g+l.length
 | [],g,M,_,hg=>by simpa[og]using hg
 |p::l,g,M,hl,hg=>by
  obtain⟨a,b,c,e⟩:=hl p List.mem_cons_self
  have hgf:=hg.nn p.farm
  have h1:Good F (M+1) (gD g p.farm (g p.farm+1)):=hg.put a b (by omega) (by have:=hg.tot;omega)
  obtain⟨q1,q2⟩:=r8 l _ _ (fun q hq=>hl q (List.mem_cons_of_mem _ hq)) h1
  rw[oL g p.farm _ F a b]at q2
  simp only[List.length_cons]
  refine⟨by rw[show M+((l.length+1:Nat):Int)=M+1+(l.length:Int) by omega];exact q1,?_⟩
  show tot F (og l (gD g p.farm (g p.farm+1)))=_
  rw[q2];omega
theorem PFit.take {F:Nat}{l:List Part}(h:PFit F l)(k:Nat):PFit F (l.take k):=fun p hp=>h p (List.mem_of_mem_take hp)
theorem Es {d:District}{l:List Part}(h:PartsOk d l){n M:Int}(h0:0≤n){g:Int→Int}(hg:Good d.farms.length M g):Good d.farms.length (M+n) (xT l n g)∧tot d.farms.length (xT l n g)=tot d.farms.length g+n:=by
 obtain⟨q1,q2⟩:=qA h0 l g M h.fit hg
 obtain⟨r1,r2⟩:=r8 (l.take (n - dg l n).toNat) _ _ (h.fit.take _) q1
 obtain⟨l1,l2⟩:=FN h n
 have e:((l.take (n - dg l n).toNat).length:Int)=n - dg l n:=by rw[List.length_take];omega
 rw[e]at r1 r2
 refine⟨by rw[show M+n=M+dg l n+(n - dg l n) by omega];exact r1,?_⟩
 show tot _ (og _ _)=_
 rw[r2,q2];omega
theorem CW {d:District}{x:Deed}(hx:Fit d x)(hk:x.kind≠4){L:Int}{g:Int→Int}(hg:Good d.farms.length L g):Good d.farms.length L (A6 x g)∧(x.kind≠3→tot d.farms.length (A6 x g)=tot d.farms.length g):=by
 obtain⟨_,_,_,s0,s1⟩:=hx.held hk
 unfold A6
 by_cases hn:g x.since=0
 ·rw[if_pos hn];exact⟨hg,fun _=>rfl⟩
 rw[if_neg hn]
 have hnn:=hg.nn x.since
 have hT:=hg.tot
 have g1:Good d.farms.length (L - g x.since) (gD g x.since 0):=hg.put s0 s1 (Int.le_refl _) (by omega)
 have t1:=oL g x.since 0 d.farms.length s0 s1
 by_cases k1:x.kind=1
 ·rw[if_pos k1]
  obtain⟨a,b,c⟩:=hx.pass k1
  have h1:=g1.nn x.to
  have t2:=oL (gD g x.since 0) x.to (gD g x.since 0 x.to+g x.since) d.farms.length a b
  exact⟨g1.put a b (by omega) (by omega),fun _=>by omega⟩
 rw[if_neg k1]
 by_cases k2:x.kind=2
 ·rw[if_pos k2]
  obtain⟨q1,q2⟩:=Es (hx.split k2) hnn g1
  rw[show L - g x.since+g x.since=L by omega]at q1
  exact⟨q1,fun _=>by omega⟩
 ·rw[if_neg k2]
  refine⟨⟨g1.nn,g1.sup,by have:=g1.tot;omega⟩,fun k3=>?_⟩
  rcases hx.kind with e|e|e|e <;>omega
abbrev BM:=List (RegisterTitle×Int)
abbrev RT (r f:Int):RegisterTitle:= { right:=r,farm:=f}
def bk (m:BM):Int→Int→Int:=fun r f=>bY .registerTitle .int m (RT r f)
theorem FO {a b c e:Int}:RT a b=RT c e↔a=c∧b=e:=by simp[RT]
theorem A7 (m:BM)(r f v:Int):bk (e_ .registerTitle .int m (RT r f) v)=fun r'=>if r'=r then gD (bk m r) f v else bk m r':=by
 funext r' f'
 unfold bk
 rw[ku]
 by_cases h:r'=r
 ·subst h
  rw[if_pos rfl]
  unfold gD
  by_cases h2:f'=f
  ·subst h2;simp
  ·rw[if_neg (fun e=>h2 (FO.1 e).2),if_neg h2]
 ·rw[if_neg (fun e=>h (FO.1 e).1),if_neg h]
theorem PM (m:BM)(hN:(gC m).Nodup)(r f:Int):bk (kM .registerTitle .int m (RT r f))=fun r'=>if r'=r then gD (bk m r) f 0 else bk m r':=by
 funext r' f'
 unfold bk bY kM
 have e:=(uz (RT r f) m hN).2.2 (RT r' f')
 have e':fg (tO m (RT r f)) (RT r' f')=if RT r' f'=RT r f then none else fg m (RT r' f'):=e
 by_cases h:r'=r
 ·subst h
  rw[if_pos rfl]
  unfold gD
  by_cases h2:f'=f
  ·subst h2;rw[e',if_pos rfl,if_pos rfl];rfl
  ·rw[e',if_neg (fun e=>h2 (FO.1 e).2),if_neg h2]
 ·rw[if_neg h,e',if_neg (fun e=>h (FO.1 e).1)]
theorem Good.le30 {F:Nat}{L:Int}{g:Int→Int}(h:Good F L g)(hL:L≤2147483648)(f:Int):0≤g f∧g f≤2147483648:=by
 have h1:=h.nn f
 by_cases e:g f=0
 ·omega
 ·obtain⟨a,b⟩:=h.sup f e
  have:=A5 h.nn F f a b
  have:=h.tot
  omega
theorem G8 {d:District}{x:Deed}(hx:PartsOk d x.parts){n:Int}(h0:0≤n)(h1:n≤1073741824){m:BM}(hN:(gC m).Nodup){M:Int}(hM:M+n≤2147483648)(hg:Good d.farms.length M (bk m x.right)):
  dD x n m∧(gC (ca x n m)).Nodup∧bk (ca x n m)=fun r=>if r=x.right then xT x.parts n (bk m r)else bk m r:=by
 obtain⟨l1,l2⟩:=FN hx n
 obtain⟨⟨m1,lf⟩,e1,a1,a2,a3⟩:=oG (step:=br x n) (fun k (s:BM×Int) =>(gC s.1).Nodup∧(bk s.1=fun r=>if r=x.right then tD (x.parts.take k) n (bk m r)else bk m r)∧s.2=n - dg (x.parts.take k) n) x.parts.length 0 (m,n) ⟨hN,by funext r;by_cases h:r=x.right <;>simp[h,tD],by simp[dg]⟩ (fun j s _ hj ⟨j1,j2,j3⟩ =>by
  rw[Nat.zero_add]at hj
  have hm:x.parts.getD j default∈x.parts:=by rw[gm _ _ hj];exact List.getElem_mem _
  obtain⟨f0,f1,f2,f3⟩:=hx.fit _ hm
  have elo:(eA (x.parts.getD j default).share n).1=loP (x.parts.getD j default) n:=(JV f2 h0 h1).1
  have hlo:=JW f2 f3 h0
  obtain⟨q1,q2⟩:=qA h0 (x.parts.take j) _ _ (hx.fit.take _) hg
  have hs:∀ k,0≤dg (x.parts.take k) n∧dg (x.parts.take k) n≤dg x.parts n:=fun k=>by
   have key:∀ l:List Part,PFit d.farms.length l→0≤dg l n:=fun l=>by
    induction l with
    |nil=>intro _;simp[dg]
    |cons p r ih=>
     intro hp
     obtain⟨_,_,c,e⟩:=hp p List.mem_cons_self
     have:=JW c e h0
     have:=ih fun q hq=>hp q (List.mem_cons_of_mem _ hq)
     have e:dg (p::r) n=loP p n+dg r n:=by simp[dg]
     omega
   have h1:=key _ (hx.fit.take k)
   have h2:=key (x.parts.drop k) fun p hp=>hx.fit p (List.mem_of_mem_drop hp)
   have h3:dg x.parts n=dg (x.parts.take k) n+dg (x.parts.drop k) n:=by
    conv=>lhs;rw[←List.take_append_drop k x.parts]
    unfold dg;rw[List.map_append,List.sum_append]
   omega
  have hsj:=hs j
  have hsj1:=hs (j+1)
  rw[cN _ default hj,xU]at hsj1
  have hv:=q1.le30 (by omega) (x.parts.getD j default).farm
  have ebk:bY .registerTitle .int s.1 (RT x.right (x.parts.getD j default).farm)=tD (x.parts.take j) n (bk m x.right) (x.parts.getD j default).farm:=by
   have:=congrFun (congrFun j2 x.right) (x.parts.getD j default).farm
   simpa[bk]using this
  refine⟨_,rfl,?_,?_,?_⟩
  ·exact(oe _ _ _ j1).1
  ·simp only[elo]
   rw[ebk,bj (by omega) (by omega),A7,j2]
   funext r
   by_cases h:r=x.right
   ·subst h;simp only[if_true];rw[cN _ default hj,G7]
   ·simp only[if_neg h]
  ·simp only[elo,j3]
   rw[bj (by omega) (by omega),cN _ default hj,xU];omega)
 rw[Nat.zero_add,List.take_length]at a2 a3
 simp only at a1 a2 a3
 have hlf:0≤lf∧lf≤(x.parts.length:Int):=by omega
 obtain⟨q1,q2⟩:=qA h0 x.parts _ _ hx.fit hg
 have tk:(x.parts.take lf.toNat).drop 0=x.parts.take lf.toNat:=by simp
 have tkl:(x.parts.take lf.toNat).length=lf.toNat:=by rw[List.length_take];omega
 obtain⟨m2,e2,b1,b2⟩:=oG (step:=eQ x (m1,lf)) (fun k (s:BM) =>(gC s).Nodup∧(bk s=fun r=>if r=x.right then og ((x.parts.take lf.toNat).take k) (tD x.parts n (bk m r))else bk m r)) lf.toNat 0 m1 ⟨a1,by rw[a2];funext r;by_cases h:r=x.right <;>simp[h,og]⟩ (fun j s _ hj ⟨j1,j2⟩ =>by
  rw[Nat.zero_add]at hj
  have hj':j< (x.parts.take lf.toNat).length:=by omega
  have hm:(x.parts.take lf.toNat).getD j default∈x.parts.take lf.toNat:=by rw[gm _ _ hj'];exact List.getElem_mem _
  obtain⟨r1,r2⟩:=r8 ((x.parts.take lf.toNat).take j) _ _ ((hx.fit.take _).take _) q1
  have hlen:((x.parts.take lf.toNat).take j).length=j:=by rw[List.length_take];omega
  have hv:=r1.le30 (by omega) ((x.parts.take lf.toNat).getD j default).farm
  have ebk:bY .registerTitle .int s (RT x.right ((x.parts.take lf.toNat).getD j default).farm)=og ((x.parts.take lf.toNat).take j) (tD x.parts n (bk m x.right)) ((x.parts.take lf.toNat).getD j default).farm:=by
   have:=congrFun (congrFun j2 x.right) ((x.parts.take lf.toNat).getD j default).farm
   simpa[bk]using this
  refine⟨_,rfl,?_,?_⟩
  ·exact(oe _ _ _ j1).1
  ·simp only[tk]
   rw[ebk,bj (by omega) (by omega),A7,j2]
   funext r
   by_cases h:r=x.right
   ·subst h;simp only[if_true];rw[cN _ default hj',Er]
   ·simp only[if_neg h])
 rw[Nat.zero_add]at b2
 have e2':an (eQ x (m1,lf)) ((x.parts.take lf.toNat).drop 0).length 0 m1=.inr m2:=by rw[tk,tkl];exact e2
 have eR:ca x n m=m2:=by
  unfold ca
  rw[e1]
  simp only[e2']
 refine⟨fun _ z hz=>?_,?_,?_⟩
 ·rw[e1]at hz;cases hz;exact⟨by omega,hlf.1,hlf.2⟩
 ·rw[eR];exact b1
 ·rw[eR,b2]
  funext r
  by_cases h:r=x.right
  ·simp only[if_pos h]
   unfold xT
   rw[←a3,List.take_take,Nat.min_self]
  ·simp only[if_neg h]
end Go.Sx
end
