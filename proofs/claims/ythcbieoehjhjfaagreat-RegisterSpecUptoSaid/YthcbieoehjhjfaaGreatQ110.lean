/- Part of the proof that the law RegisterSpec returns true and leaves its arguments as they were, for all arguments of bulk at most 1048576 (the Upto form). -/
import Derived.Test.YthcbieoehjhjfaaGreatQ109
import Derived.Test.YthcbieoehjhjfaaGreatQ108
import Derived.Test.YthcbieoehjhjfaaGreatQ107
set_option linter.all false
set_option maxHeartbeats 4000000
set_option maxRecDepth 100000
section
namespace Go.Sx
open Go.Proofs
open IntKind (i64 u64)
noncomputable def Ac (rec_:Int->Int->Int->List Deed->List Deed)(recp_:Int->Int->Int->List Deed->Prop):List SV->List Ob->Option HCon:=fQ (fun x_:Int×Int×Int×(List Deed) =>[.os 0,.v (.int .i64 x_.1),.v (.int .i64 x_.2.1),.v (.int .i64 x_.2.2.1),.fn 78 [] []]) (fun x_=>[.row .deed x_.2.2.2]) (fun x_=>dW (recp_ x_.1 x_.2.1 x_.2.2.1 x_.2.2.2) (.tup []) [.row .deed (rec_ x_.1 x_.2.1 x_.2.2.1 x_.2.2.2)])
@[go_sem] theorem yR (rec_:Int->Int->Int->List Deed->List Deed)(recp_:Int->Int->Int->List Deed->Prop)(a:Int)(m:Int)(b:Int)(l_:List Deed):Ac rec_ recp_ ([.os 0,.v (.int .i64 a),.v (.int .i64 m),.v (.int .i64 b),.fn 78 [] []]) ([.row .deed l_])=some (dW (recp_ a m b l_) (.tup []) [.row .deed (rec_ a m b l_)]):=dZ (A:=fun x_:Int×Int×Int×(List Deed) =>[.os 0,.v (.int .i64 x_.1),.v (.int .i64 x_.2.1),.v (.int .i64 x_.2.2.1),.fn 78 [] []]) (H:=fun x_=>[.row .deed x_.2.2.2]) (K:=fun x_=>dW (recp_ x_.1 x_.2.1 x_.2.2.1 x_.2.2.2) (.tup []) [.row .deed (rec_ x_.1 x_.2.1 x_.2.2.1 x_.2.2.2)]) (x:=(a,m,b,l_))
@[go_sem] def mq (a:Int)(l_:List Deed)(k_0:Nat)(s_0:Int×Int):Int⊕(Int×Int):=letI q0:=i64.wrap (im .u64 (u64.wrap (i64.wrap (s_0.1+s_0.2))) 1);(bif(decide (s_0.1<s_0.2))then(bif(decide ((cw (l_.getD (Int.toNat q0) default) (l_.getD (Int.toNat a) default)) <0))then .inr ((i64.wrap (q0+1)),s_0.2)else .inr (s_0.1,q0))else .inl s_0.1)
def mB (a:Int)(l_:List Deed)(k_0:Nat)(s_0:Int×Int):Prop:=letI q0:=i64.wrap (im .u64 (u64.wrap (i64.wrap (s_0.1+s_0.2))) 1);((decide (s_0.1<s_0.2))=true->((0<=q0/\q0< (l_.length:Int))/\(0<=a/\a< (l_.length:Int))))
@[go_sem] def oO (l_:List Deed)(x_0_0:Int)(k_1:Nat)(s_1:List Deed×Int):(List Deed)⊕(List Deed×Int):=letI q0:=i64.wrap (s_1.2+1);(bif(decide (s_1.2< (i64.wrap (x_0_0 - 1))))then .inr (((s_1.1.set (Int.toNat s_1.2) (s_1.1.getD (Int.toNat q0) default)).set (Int.toNat q0) (s_1.1.getD (Int.toNat s_1.2) default)),q0)else .inl s_1.1)
def od (l_:List Deed)(x_0_0:Int)(k_1:Nat)(s_1:List Deed×Int):Prop:=letI q0:=i64.wrap (s_1.2+1);letI q2:=(s_1.1.length:Int);letI q1:=0<=s_1.2/\s_1.2<q2;((decide (s_1.2< (i64.wrap (x_0_0 - 1))))=true->((0<=q0/\q0<q2)/\(q1/\(q1/\(0<=q0/\q0< ((s_1.1.set (Int.toNat s_1.2) (s_1.1.getD (Int.toNat q0) default)).length:Int))))))
@[go_sem] def mr (m:Int)(l_:List Deed)(k_2:Nat)(s_2:Int×Int):Int⊕(Int×Int):=letI q0:=i64.wrap (im .u64 (u64.wrap (i64.wrap (s_2.1+s_2.2))) 1);(bif(decide (s_2.1<s_2.2))then(bif(!(decide ((cw (l_.getD (Int.toNat m) default) (l_.getD (Int.toNat q0) default)) <0)))then .inr ((i64.wrap (q0+1)),s_2.2)else .inr (s_2.1,q0))else .inl s_2.1)
def mC (m:Int)(l_:List Deed)(k_2:Nat)(s_2:Int×Int):Prop:=letI q0:=i64.wrap (im .u64 (u64.wrap (i64.wrap (s_2.1+s_2.2))) 1);((decide (s_2.1<s_2.2))=true->((0<=m/\m< (l_.length:Int))/\(0<=q0/\q0< (l_.length:Int))))
@[go_sem] def oP (l_:List Deed)(x_2_0:Int)(k_3:Nat)(s_3:List Deed×Int):(List Deed)⊕(List Deed×Int):=letI q0:=i64.wrap (s_3.2 - 1);(bif(decide (s_3.2 > x_2_0))then .inr (((s_3.1.set (Int.toNat s_3.2) (s_3.1.getD (Int.toNat q0) default)).set (Int.toNat q0) (s_3.1.getD (Int.toNat s_3.2) default)),q0)else .inl s_3.1)
def oe (l_:List Deed)(x_2_0:Int)(k_3:Nat)(s_3:List Deed×Int):Prop:=letI q0:=i64.wrap (s_3.2 - 1);letI q2:=(s_3.1.length:Int);letI q1:=0<=s_3.2/\s_3.2<q2;((decide (s_3.2 > x_2_0))=true->((0<=q0/\q0<q2)/\(q1/\(q1/\(0<=q0/\q0< ((s_3.1.set (Int.toNat s_3.2) (s_3.1.getD (Int.toNat q0) default)).length:Int))))))
@[go_sem] def ql (a:Int)(m:Int)(b:Int)(l_:List Deed)(k_4:Nat)(s_4:Int×Int):Int⊕(Int×Int):=letI q0:=i64.wrap (im .u64 (u64.wrap (i64.wrap (s_4.1+s_4.2))) 1);(bif(decide (s_4.1<s_4.2))then(bif(!(decide ((cw (l_.getD (Int.toNat (i64.wrap ((i64.wrap ((i64.wrap ((i64.wrap (im .u64 (u64.wrap (i64.wrap (a+b))) 1))+m)) - 1)) - q0))) default) (l_.getD (Int.toNat q0) default)) <0)))then .inr ((i64.wrap (q0+1)),s_4.2)else .inr (s_4.1,q0))else .inl s_4.1)
def mD (a:Int)(m:Int)(b:Int)(l_:List Deed)(k_4:Nat)(s_4:Int×Int):Prop:=letI q0:=i64.wrap (im .u64 (u64.wrap (i64.wrap (s_4.1+s_4.2))) 1);letI q1:=i64.wrap ((i64.wrap ((i64.wrap ((i64.wrap (im .u64 (u64.wrap (i64.wrap (a+b))) 1))+m)) - 1)) - q0);((decide (s_4.1<s_4.2))=true->((0<=q1/\q1< (l_.length:Int))/\(0<=q0/\q0< (l_.length:Int))))
def Ad (rec_:Int->Int->Int->List Deed->List Deed)(recp_:Int->Int->Int->List Deed->Prop)(a:Int)(m:Int)(b:Int)(l_:List Deed):List Deed:=letI q0:=i64.wrap (im .u64 (u64.wrap (i64.wrap (a+b))) 1);letI q1:=i64.wrap (q0+m);letI q2:=l_.length+1;(bif((i64.wrap (m - a)) ==1)then(match aj (mq a l_) q2 0 (m,b)with| .inl x_0_0=>(match aj (oO l_ x_0_0) q2 0 (l_,a)with| .inl x_1_0=>x_1_0| .inr s_1=>default) | .inr s_0=>default)else(bif((i64.wrap (b - m)) ==1)then(match aj (mr m l_) q2 0 (a,m)with| .inl x_2_0=>(match aj (oP l_ x_2_0) q2 0 (l_,m)with| .inl x_3_0=>x_3_0| .inr s_3=>default) | .inr s_2=>default)else(match aj (ql a m b l_) q2 0 ((bif(decide (m > q0))then(i64.wrap (q1 - b))else a),(bif(decide (m > q0))then q0 else m))with| .inl x_4_0=>(bif((decide (x_4_0<m))&&(decide (m< (i64.wrap (q1 - x_4_0)))))then(bif((decide (a<x_4_0))&&(decide (x_4_0<q0)))then(bif((decide (q0< (i64.wrap (q1 - x_4_0))))&&(decide ((i64.wrap (q1 - x_4_0)) <b)))then(rec_ q0 (i64.wrap (q1 - x_4_0)) b (rec_ a x_4_0 q0 (am x_4_0 m (i64.wrap (q1 - x_4_0)) l_)))else(rec_ a x_4_0 q0 (am x_4_0 m (i64.wrap (q1 - x_4_0)) l_)))else(bif((decide (q0< (i64.wrap (q1 - x_4_0))))&&(decide ((i64.wrap (q1 - x_4_0)) <b)))then(rec_ q0 (i64.wrap (q1 - x_4_0)) b (am x_4_0 m (i64.wrap (q1 - x_4_0)) l_))else(am x_4_0 m (i64.wrap (q1 - x_4_0)) l_)))else(bif((decide (a<x_4_0))&&(decide (x_4_0<q0)))then(bif((decide (q0< (i64.wrap (q1 - x_4_0))))&&(decide ((i64.wrap (q1 - x_4_0)) <b)))then(rec_ q0 (i64.wrap (q1 - x_4_0)) b (rec_ a x_4_0 q0 l_))else(rec_ a x_4_0 q0 l_))else(bif((decide (q0< (i64.wrap (q1 - x_4_0))))&&(decide ((i64.wrap (q1 - x_4_0)) <b)))then(rec_ q0 (i64.wrap (q1 - x_4_0)) b l_)else l_))) | .inr s_4=>default)))
def oQ (rec_:Int->Int->Int->List Deed->List Deed)(recp_:Int->Int->Int->List Deed->Prop)(a:Int)(m:Int)(b:Int)(l_:List Deed):Prop:=letI q0:=i64.wrap (im .u64 (u64.wrap (i64.wrap (a+b))) 1);letI q1:=i64.wrap (q0+m);letI q2:=((bif(decide (m > q0))then(i64.wrap (q1 - b))else a),(bif(decide (m > q0))then q0 else m));letI q3:=l_.length+1;letI q4:=ql a m b l_;letI q5:=(i64.wrap (m - a)) ==1;letI q6:=(i64.wrap (b - m)) ==1;letI q7:=mq a l_;letI q8:=mr m l_;((q5=true->(okI q7 (mB a l_) q3 0 (m,b)/\(∀ z_,aj q7 q3 0 (m,b)≠ .inr z_)/\(∀ x_0_0,aj q7 q3 0 (m,b)=.inl x_0_0->(okI (oO l_ x_0_0) (od l_ x_0_0) q3 0 (l_,a)/\(∀ z_,aj (oO l_ x_0_0) q3 0 (l_,a)≠ .inr z_)))))/\(q5=false->((q6=true->(okI q8 (mC m l_) q3 0 (a,m)/\(∀ z_,aj q8 q3 0 (a,m)≠ .inr z_)/\(∀ x_2_0,aj q8 q3 0 (a,m)=.inl x_2_0->(okI (oP l_ x_2_0) (oe l_ x_2_0) q3 0 (l_,m)/\(∀ z_,aj (oP l_ x_2_0) q3 0 (l_,m)≠ .inr z_)))))/\(q6=false->(okI q4 (mD a m b l_) q3 0 q2/\(∀ z_,aj q4 q3 0 q2≠ .inr z_)/\(∀ x_4_0,aj q4 q3 0 q2=.inl x_4_0->((((decide (x_4_0<m))&&(decide (m< (i64.wrap (q1 - x_4_0)))))=true->((a_ x_4_0 m (i64.wrap (q1 - x_4_0)) l_)/\((((decide (a<x_4_0))&&(decide (x_4_0<q0)))=true->((recp_ a x_4_0 q0 (am x_4_0 m (i64.wrap (q1 - x_4_0)) l_))/\(((decide (q0< (i64.wrap (q1 - x_4_0))))&&(decide ((i64.wrap (q1 - x_4_0)) <b)))=true->(recp_ q0 (i64.wrap (q1 - x_4_0)) b (rec_ a x_4_0 q0 (am x_4_0 m (i64.wrap (q1 - x_4_0)) l_))))))/\(((decide (a<x_4_0))&&(decide (x_4_0<q0)))=false->(((decide (q0< (i64.wrap (q1 - x_4_0))))&&(decide ((i64.wrap (q1 - x_4_0)) <b)))=true->(recp_ q0 (i64.wrap (q1 - x_4_0)) b (am x_4_0 m (i64.wrap (q1 - x_4_0)) l_)))))))/\(((decide (x_4_0<m))&&(decide (m< (i64.wrap (q1 - x_4_0)))))=false->((((decide (a<x_4_0))&&(decide (x_4_0<q0)))=true->((recp_ a x_4_0 q0 l_)/\(((decide (q0< (i64.wrap (q1 - x_4_0))))&&(decide ((i64.wrap (q1 - x_4_0)) <b)))=true->(recp_ q0 (i64.wrap (q1 - x_4_0)) b (rec_ a x_4_0 q0 l_)))))/\(((decide (a<x_4_0))&&(decide (x_4_0<q0)))=false->(((decide (q0< (i64.wrap (q1 - x_4_0))))&&(decide ((i64.wrap (q1 - x_4_0)) <b)))=true->(recp_ q0 (i64.wrap (q1 - x_4_0)) b l_))))))))))))
noncomputable def NR (rec_:Int->Int->Int->List Deed->List Deed)(recp_:Int->Int->Int->List Deed->Prop):List SV->List Ob->Option HCon:=fQ (fun x_:Int×Int×Int×(List Deed) =>[.os 0,.v (.int .i64 x_.1),.v (.int .i64 x_.2.1),.v (.int .i64 x_.2.2.1),.fn 78 [] []]) (fun x_=>[.row .deed x_.2.2.2]) (fun x_=>dW (oQ rec_ recp_ x_.1 x_.2.1 x_.2.2.1 x_.2.2.2) (.tup []) [.row .deed (Ad rec_ recp_ x_.1 x_.2.1 x_.2.2.1 x_.2.2.2)])
theorem KO (rec_:Int->Int->Int->List Deed->List Deed)(recp_:Int->Int->Int->List Deed->Prop)(hr:FnOkO Tryz.prog 135 (Ac rec_ recp_)):FnOkO Tryz.prog 135 (NR rec_ recp_):=by
 have hG:ConsOk Tryz.prog (mkG [(78,fun l=>gK (cX [.st .deed,.st .deed] l))] [(135,(Ac rec_ recp_)),(148,dU)]):=av (cgc (jX.norm [.st .deed,.st .deed]) cg0) (cgc hr (cgc jY cg0));refine fO mixed al hG (fn:=Tryz.f135) (c:=ae Tryz.f135) kr kr kr kr fun l o con h=>?_;obtain⟨⟨a,m,b,l_⟩,rfl,rfl,rfl⟩:=cP h;clear h;try dsimp only
 refine⟨_,_,_,rfl,fun hp=>?_⟩;unfold oQ at hp;refine⟨nbl rfl,(fun id st=>bif Nat.beq id 0 then some (LCV (ρ:=Int) (σ:=(Int×Int)) 1 [] [0] (fun k_0 s_0=>⟨[(0,.os 0),(1,.v (.int .i64 a)),(4,.fn 78 [] []),(10,.v (.int .i64 s_0.1)),(11,.v (.int .i64 s_0.2))],[.row .deed l_]⟩) (mq a l_) (mB a l_) (l_.length+1) (m,b) (fun _=>.normal) (fun x_0_0=>⟨[(0,.os 0),(1,.v (.int .i64 a)),(10,.v (.int .i64 x_0_0))],[.row .deed l_]⟩) st)else bif Nat.beq id 2 then some (LCV (ρ:=(List Deed)) (σ:=(List Deed×Int)) 1 [] [0] (fun k_1 s_1=>⟨[(0,.os 0),(10,.v (.int .i64 (dK (aj (mq a l_) (l_.length+1) 0 (m,b))))),(13,.v (.int .i64 s_1.2))],[.row .deed s_1.1]⟩) (oO l_ (dK (aj (mq a l_) (l_.length+1) 0 (m,b)))) (od l_ (dK (aj (mq a l_) (l_.length+1) 0 (m,b)))) (l_.length+1) (l_,a) (fun _=>.normal) (fun x_1_0=>⟨[],[.row .deed x_1_0]⟩) st)else bif Nat.beq id 4 then some (LCV (ρ:=Int) (σ:=(Int×Int)) 1 [] [0] (fun k_2 s_2=>⟨[(0,.os 0),(2,.v (.int .i64 m)),(4,.fn 78 [] []),(14,.v (.int .i64 s_2.1)),(15,.v (.int .i64 s_2.2))],[.row .deed l_]⟩) (mr m l_) (mC m l_) (l_.length+1) (a,m) (fun _=>.normal) (fun x_2_0=>⟨[(0,.os 0),(2,.v (.int .i64 m)),(14,.v (.int .i64 x_2_0))],[.row .deed l_]⟩) st)else bif Nat.beq id 6 then some (LCV (ρ:=(List Deed)) (σ:=(List Deed×Int)) 1 [] [0] (fun k_3 s_3=>⟨[(0,.os 0),(14,.v (.int .i64 (dK (aj (mr m l_) (l_.length+1) 0 (a,m))))),(17,.v (.int .i64 s_3.2))],[.row .deed s_3.1]⟩) (oP l_ (dK (aj (mr m l_) (l_.length+1) 0 (a,m)))) (oe l_ (dK (aj (mr m l_) (l_.length+1) 0 (a,m)))) (l_.length+1) (l_,m) (fun _=>.normal) (fun x_3_0=>⟨[],[.row .deed x_3_0]⟩) st)else bif Nat.beq id 1000140 then some (JC (⟨[(0,.os 0),(1,.v (.int .i64 a)),(2,.v (.int .i64 m)),(3,.v (.int .i64 b)),(4,.fn 78 [] []),(18,.v (.int .i64 (i64.wrap (im .u64 (u64.wrap (i64.wrap (a+b))) 1)))),(19,.v (.int .i64 (i64.wrap ((i64.wrap (im .u64 (u64.wrap (i64.wrap (a+b))) 1))+m)))),(20,.v (.int .i64 (bif(decide (m > (i64.wrap (im .u64 (u64.wrap (i64.wrap (a+b))) 1))))then(i64.wrap ((i64.wrap ((i64.wrap (im .u64 (u64.wrap (i64.wrap (a+b))) 1))+m)) - b))else a))),(21,.v (.int .i64 (bif(decide (m > (i64.wrap (im .u64 (u64.wrap (i64.wrap (a+b))) 1))))then(i64.wrap (im .u64 (u64.wrap (i64.wrap (a+b))) 1))else m)))],[.row .deed l_]⟩))else bif Nat.beq id 8 then some (LCV (ρ:=Int) (σ:=(Int×Int)) 1 [] [0] (fun k_4 s_4=>⟨[(0,.os 0),(1,.v (.int .i64 a)),(2,.v (.int .i64 m)),(3,.v (.int .i64 b)),(4,.fn 78 [] []),(18,.v (.int .i64 (i64.wrap (im .u64 (u64.wrap (i64.wrap (a+b))) 1)))),(19,.v (.int .i64 (i64.wrap ((i64.wrap (im .u64 (u64.wrap (i64.wrap (a+b))) 1))+m)))),(20,.v (.int .i64 s_4.1)),(21,.v (.int .i64 s_4.2)),(22,.v (.int .i64 (i64.wrap ((i64.wrap ((i64.wrap (im .u64 (u64.wrap (i64.wrap (a+b))) 1))+m)) - 1))))],[.row .deed l_]⟩) (ql a m b l_) (mD a m b l_) (l_.length+1) ((bif(decide (m > (i64.wrap (im .u64 (u64.wrap (i64.wrap (a+b))) 1))))then(i64.wrap ((i64.wrap ((i64.wrap (im .u64 (u64.wrap (i64.wrap (a+b))) 1))+m)) - b))else a),(bif(decide (m > (i64.wrap (im .u64 (u64.wrap (i64.wrap (a+b))) 1))))then(i64.wrap (im .u64 (u64.wrap (i64.wrap (a+b))) 1))else m)) (fun _=>.normal) (fun x_4_0=>⟨[(0,.os 0),(1,.v (.int .i64 a)),(2,.v (.int .i64 m)),(3,.v (.int .i64 b)),(4,.fn 78 [] []),(18,.v (.int .i64 (i64.wrap (im .u64 (u64.wrap (i64.wrap (a+b))) 1)))),(19,.v (.int .i64 (i64.wrap ((i64.wrap (im .u64 (u64.wrap (i64.wrap (a+b))) 1))+m)))),(20,.v (.int .i64 x_4_0))],[.row .deed l_]⟩) st)else none),?_,?_⟩
 ·unfold ae Tryz.f135;simp only[ak,true_and,and_true,and_assoc];refine⟨?_,?_,?_,?_,?_⟩
  ·refine ez mixed al hG kr (fun _=>rfl) fun k_0 s_0 hq0=>⟨L0,ah _,?_⟩
   ·unfold mB at hq0;exact cH (jl [0])
  ·refine ez mixed al hG kr (fun _=>rfl) fun k_1 s_1 hq1=>⟨L0,ah _,?_⟩
   ·unfold od at hq1;exact cH (jl [0])
  ·refine ez mixed al hG kr (fun _=>rfl) fun k_2 s_2 hq2=>⟨L0,ah _,?_⟩
   ·unfold mC at hq2;exact cH (jl [0])
  ·refine ez mixed al hG kr (fun _=>rfl) fun k_3 s_3 hq3=>⟨L0,ah _,?_⟩
   ·unfold oe at hq3;exact cH (jl [0])
  ·refine ez mixed al hG kr (fun _=>rfl) fun k_4 s_4 hq4=>⟨L0,ah _,?_⟩
   ·unfold mD at hq4;exact cH (jl [0])
 ·unfold ae Tryz.f135;try unfold Ad
  exact cH (jl [0])
def kY:Nat->(Int->Int->Int->List Deed->List Deed)×(Int->Int->Int->List Deed->Prop)
 |0=>(fun _ _ _ l=>l,fun _ _ _ _=>False)
 |n+1=>(Ad (kY n).1 (kY n).2,oQ (kY n).1 (kY n).2)
theorem Dg:∀ n,FnOkO Tryz.prog 135 (Ac (kY n).1 (kY n).2)
 |0=>by
  have hG:ConsOk Tryz.prog (mkG [] []):=av cg0 cg0;refine fO mixed al hG (fn:=Tryz.f135) (c:=ae Tryz.f135) kr kr kr kr fun l o con h=>?_;obtain⟨⟨a,m,b,l_⟩,rfl,rfl,rfl⟩:=cP h;exact⟨_,_,_,rfl,fun hp=>hp.elim⟩
 |n+1=>KO _ _ (Dg n)
def bQ (a:Int)(m:Int)(b:Int)(l_:List Deed):List Deed:=(kY (l_.length+1)).1 a m b l_
def bE (a:Int)(m:Int)(b:Int)(l_:List Deed):Prop:=(kY (l_.length+1)).2 a m b l_
noncomputable def dI:List SV->List Ob->Option HCon:=fQ (fun x_:Int×Int×Int×(List Deed) =>[.os 0,.v (.int .i64 x_.1),.v (.int .i64 x_.2.1),.v (.int .i64 x_.2.2.1),.fn 78 [] []]) (fun x_=>[.row .deed x_.2.2.2]) (fun x_=>dW (bE x_.1 x_.2.1 x_.2.2.1 x_.2.2.2) (.tup []) [.row .deed (bQ x_.1 x_.2.1 x_.2.2.1 x_.2.2.2)])
@[go_sem] theorem qy (a:Int)(m:Int)(b:Int)(l_:List Deed):dI ([.os 0,.v (.int .i64 a),.v (.int .i64 m),.v (.int .i64 b),.fn 78 [] []]) ([.row .deed l_])=some (dW (bE a m b l_) (.tup []) [.row .deed (bQ a m b l_)]):=dZ (A:=fun x_:Int×Int×Int×(List Deed) =>[.os 0,.v (.int .i64 x_.1),.v (.int .i64 x_.2.1),.v (.int .i64 x_.2.2.1),.fn 78 [] []]) (H:=fun x_=>[.row .deed x_.2.2.2]) (K:=fun x_=>dW (bE x_.1 x_.2.1 x_.2.2.1 x_.2.2.2) (.tup []) [.row .deed (bQ x_.1 x_.2.1 x_.2.2.1 x_.2.2.2)]) (x:=(a,m,b,l_))
theorem jt:FnOkO Tryz.prog 135 dI where
 enter:=fun l h c e=>by
  obtain⟨⟨a,m,b,l_⟩,rfl,rfl,rfl⟩:=cP e;exact(Dg (l_.length+1)).enter _ _ _ (yR _ _ a m b l_)
 calls:=fun l h c e hp=>by
  obtain⟨⟨a,m,b,l_⟩,rfl,rfl,rfl⟩:=cP e;exact(Dg (l_.length+1)).calls _ _ _ (yR _ _ a m b l_) hp
@[go_sem] def a7 (n:Int)(k_0:Nat)(s_0:List Deed×Int×Int):(Int×List Deed)⊕(List Deed×Int×Int):=(bif(decide (s_0.2.2<=n))then .inr ((aq s_0.2.1 s_0.2.2 s_0.1),s_0.2.2,(i64.wrap (s_0.2.2+20)))else .inl (s_0.2.1,s_0.1))
def b8 (n:Int)(k_0:Nat)(s_0:List Deed×Int×Int):Prop:=((decide (s_0.2.2<=n))=true->(aJ s_0.2.1 s_0.2.2 s_0.1))
@[go_sem] def bK (n:Int)(s_1:List Deed×Int)(k_2:Nat)(s_2:List Deed×Int×Int):(Int×List Deed)⊕(List Deed×Int×Int):=(bif(decide (s_2.2.2<=n))then .inr ((bQ s_2.2.1 (i64.wrap (s_2.2.1+s_1.2)) s_2.2.2 s_2.1),s_2.2.2,(i64.wrap (s_2.2.2+(i64.wrap (2*s_1.2)))))else .inl (s_2.2.1,s_2.1))
def b9 (n:Int)(s_1:List Deed×Int)(k_2:Nat)(s_2:List Deed×Int×Int):Prop:=((decide (s_2.2.2<=n))=true->(bE s_2.2.1 (i64.wrap (s_2.2.1+s_1.2)) s_2.2.2 s_2.1))
@[go_sem] def bh (n:Int)(k_1:Nat)(s_1:List Deed×Int):(List Deed)⊕(List Deed×Int):=letI q0:=i64.wrap (s_1.2*2);(bif(decide (s_1.2<n))then(match aj (bK n s_1) (Int.toNat n+1) 0 (s_1.1,0,(i64.wrap (2*s_1.2)))with| .inl x_2_0=>(bif(decide ((i64.wrap (x_2_0.1+s_1.2)) <n))then .inr ((bQ x_2_0.1 (i64.wrap (x_2_0.1+s_1.2)) n x_2_0.2),q0)else .inr (x_2_0.2,q0)) | .inr s_2=>.inr default)else .inl s_1.1)
def bC (n:Int)(k_1:Nat)(s_1:List Deed×Int):Prop:=letI q0:=(s_1.1,0,(i64.wrap (2*s_1.2)));letI q1:=bK n s_1;letI q2:=Int.toNat n+1;((decide (s_1.2<n))=true->(okI q1 (b9 n s_1) q2 0 q0/\(∀ z_,aj q1 q2 0 q0≠ .inr z_)/\(∀ x_2_0,aj q1 q2 0 q0=.inl x_2_0->((decide ((i64.wrap (x_2_0.1+s_1.2)) <n))=true->(bE x_2_0.1 (i64.wrap (x_2_0.1+s_1.2)) n x_2_0.2)))))
def bF (n:Int)(l_:List Deed):List Deed:=(match aj (a7 n) (Int.toNat n+1) 0 (l_,0,20)with| .inl x_0_0=>(match aj (bh n) (Int.toNat n+1) 0 ((aq x_0_0.1 n x_0_0.2),20)with| .inl x_1_0=>x_1_0| .inr s_1=>default) | .inr s_0=>default)
def bo (n:Int)(l_:List Deed):Prop:=letI q0:=a7 n;letI q1:=Int.toNat n+1;letI q2:=bh n;letI q3:=(l_,0,20);(okI q0 (b8 n) q1 0 q3/\(∀ z_,aj q0 q1 0 q3≠ .inr z_)/\(∀ x_0_0,aj q0 q1 0 q3=.inl x_0_0->((aJ x_0_0.1 n x_0_0.2)/\(okI q2 (bC n) q1 0 ((aq x_0_0.1 n x_0_0.2),20)/\(∀ z_,aj q2 q1 0 ((aq x_0_0.1 n x_0_0.2),20)≠ .inr z_)))))
noncomputable def dV:List SV->List Ob->Option HCon:=fQ (fun x_:Int×(List Deed) =>[.os 0,.v (.int .i64 x_.1),.fn 78 [] []]) (fun x_=>[.row .deed x_.2]) (fun x_=>dW (bo x_.1 x_.2) (.tup []) [.row .deed (bF x_.1 x_.2)])
@[go_sem] theorem rJ (n:Int)(l_:List Deed):dV ([.os 0,.v (.int .i64 n),.fn 78 [] []]) ([.row .deed l_])=some (dW (bo n l_) (.tup []) [.row .deed (bF n l_)]):=dZ (A:=fun x_:Int×(List Deed) =>[.os 0,.v (.int .i64 x_.1),.fn 78 [] []]) (H:=fun x_=>[.row .deed x_.2]) (K:=fun x_=>dW (bo x_.1 x_.2) (.tup []) [.row .deed (bF x_.1 x_.2)]) (x:=(n,l_))
theorem jZ:FnOkO Tryz.prog 102 (dV):=by
 have hG:ConsOk Tryz.prog (mkG [] [(134,c6),(135,dI)]):=av cg0 (cgc gP (cgc jt cg0));refine fO mixed al hG (fn:=Tryz.f102) (c:=ae Tryz.f102) kr kr kr kr fun l o con h=>?_;obtain⟨⟨n,l_⟩,rfl,rfl,rfl⟩:=cP h;clear h;try dsimp only
 refine⟨_,_,_,rfl,fun hp=>?_⟩;unfold bo at hp;refine⟨nbl rfl,(fun id st=>bif Nat.beq id 0 then some (LCV (ρ:=(Int×List Deed)) (σ:=(List Deed×Int×Int)) 1 [] [0] (fun k_0 s_0=>⟨[(0,.os 0),(1,.v (.int .i64 n)),(2,.fn 78 [] []),(6,.v (.int .i64 20)),(7,.v (.int .i64 s_0.2.1)),(8,.v (.int .i64 s_0.2.2))],[.row .deed s_0.1]⟩) (a7 n) (b8 n) (Int.toNat n+1) (l_,0,20) (fun _=>.normal) (fun x_0_0=>⟨[(0,.os 0),(1,.v (.int .i64 n)),(2,.fn 78 [] []),(6,.v (.int .i64 20)),(7,.v (.int .i64 x_0_0.1))],[.row .deed x_0_0.2]⟩) st)else bif Nat.beq id 2 then some (LCV (ρ:=(List Deed)) (σ:=(List Deed×Int)) 1 [] [0] (fun k_1 s_1=>⟨[(0,.os 0),(1,.v (.int .i64 n)),(2,.fn 78 [] []),(6,.v (.int .i64 s_1.2))],[.row .deed s_1.1]⟩) (bh n) (bC n) (Int.toNat n+1) ((aq (dK (aj (a7 n) (Int.toNat n+1) 0 (l_,0,20))).1 n (dK (aj (a7 n) (Int.toNat n+1) 0 (l_,0,20))).2),20) (fun _=>.normal) (fun x_1_0=>⟨[],[.row .deed x_1_0]⟩) st)else none),?_,?_⟩
 ·unfold ae Tryz.f102;simp only[ak,true_and,and_true,and_assoc];refine⟨?_,?_⟩
  ·refine ez mixed al hG kr (fun _=>rfl) fun k_0 s_0 hq0=>⟨L0,ah _,?_⟩
   ·unfold b8 at hq0;exact cH (jl [0])
  ·refine ez mixed al hG kr (fun _=>rfl) fun k_1 s_1 hq1=>⟨(fun id st=>bif Nat.beq id 4 then some (LCV (ρ:=(Int×List Deed)) (σ:=(List Deed×Int×Int)) 1 [] [0] (fun k_2 s_2=>⟨[(0,.os 0),(1,.v (.int .i64 n)),(2,.fn 78 [] []),(6,.v (.int .i64 s_1.2)),(7,.v (.int .i64 s_2.2.1)),(8,.v (.int .i64 s_2.2.2))],[.row .deed s_2.1]⟩) (bK n s_1) (b9 n s_1) (Int.toNat n+1) (s_1.1,0,(i64.wrap (2*s_1.2))) (fun _=>.normal) (fun x_2_0=>⟨[(0,.os 0),(1,.v (.int .i64 n)),(2,.fn 78 [] []),(6,.v (.int .i64 s_1.2)),(7,.v (.int .i64 x_2_0.1))],[.row .deed x_2_0.2]⟩) st)else none),?_,?_⟩
   ·simp only[ak,true_and,and_true]
    ·refine ez mixed al hG kr (fun _=>rfl) fun k_2 s_2 hq2=>⟨L0,ah _,?_⟩
     ·unfold b9 at hq2;exact cH (jl [0])
   ·unfold bC at hq1;exact cH (jl [0])
 ·unfold ae Tryz.f102;try unfold bF
  exact cH (jl [0])
def ba (l_:List Deed):List Deed:=(bF (l_.length:Int) l_)
def aZ (l_:List Deed):Prop:=(l_.length<=bb->(bo (l_.length:Int) l_))
noncomputable def cI:List SV->List Ob->Option HCon:=fQ (fun x_:(List Deed) =>[.os 0,.fn 78 [] []]) (fun x_=>[.row .deed x_]) (fun x_=>dW (aZ x_) (.tup []) [.row .deed (ba x_)])
@[go_sem] theorem og (l_:List Deed):cI ([.os 0,.fn 78 [] []]) ([.row .deed l_])=some (dW (aZ l_) (.tup []) [.row .deed (ba l_)]):=dZ (A:=fun x_:(List Deed) =>[.os 0,.fn 78 [] []]) (H:=fun x_=>[.row .deed x_]) (K:=fun x_=>dW (aZ x_) (.tup []) [.row .deed (ba x_)]) (x:=l_)
theorem gn:FnOkO Tryz.prog 77 (cI):=by
 have hG:ConsOk Tryz.prog (mkG [] [(102,dV)]):=av cg0 (cgc jZ cg0);refine fO mixed al hG (fn:=Tryz.f77) (c:=ae Tryz.f77) kr kr kr kr fun l o con h=>?_;obtain⟨l_,rfl,rfl,rfl⟩:=cP h;clear h;try dsimp only
 refine⟨_,_,_,rfl,fun hp=>?_⟩;unfold aZ at hp;refine⟨nbl rfl,L0,?_,?_⟩
 ·unfold ae Tryz.f77;simp only[ak,and_self,true_and,and_true]
 ·unfold ae Tryz.f77;try unfold ba
  exact cH (jl [0])
end Go.Sx
end
section
namespace Go.Sx
theorem H1 {p:Pk}{f:FuncId}{a b:List SV}:qw [p] (.fn f a b)=tj p (.fn f a b):=(rfl)
theorem H2 {f:FuncId}{a b:List SV}:tj .o (.fn f a b)=.fn f a b:=(rfl)
end Go.Sx
end
section
namespace Go.Sx
open Go.Proofs
open IntKind (i64 u64)
def kl (l_:List Deed):Unit:=()
noncomputable def dJ:List SV->List Ob->Option HCon:=fQ (fun x_:(List Deed) =>[.os 0]) (fun x_=>[.row .deed x_]) (fun x_=>dW True (.fn 103 [] [.ptr 1 0]) [.row .deed x_,.cells [.os 0]])
@[go_sem] theorem qz (l_:List Deed):dJ ([.os 0]) ([.row .deed l_])=some (dW True (.fn 103 [] [.ptr 1 0]) [.row .deed l_,.cells [.os 0]]):=dZ (A:=fun x_:(List Deed) =>[.os 0]) (H:=fun x_=>[.row .deed x_]) (K:=fun x_=>dW True (.fn 103 [] [.ptr 1 0]) [.row .deed x_,.cells [.os 0]]) (x:=l_)
theorem ju:FnOkO Tryz.prog 79 (dJ):=by
 have hG:ConsOk Tryz.prog (mkG [] []):=av cg0 cg0;refine fO mixed al hG (fn:=Tryz.f79) (c:=ae Tryz.f79) kr kr kr kr fun l o con h=>?_;obtain⟨l_,rfl,rfl,rfl⟩:=cP h;clear h;try dsimp only
 refine⟨_,_,_,rfl,fun hp=>?_⟩;refine⟨nbl rfl,L0,?_,?_⟩
 ·unfold ae Tryz.f79;simp only[ak,and_self,true_and,and_true]
 ·unfold ae Tryz.f79;try unfold kl
  exact cH (jl [0,1])
@[go_sem] def dF (l_:List Deed)(known:Int)(k_0:Nat)(s_0:List (Int×Bool)):Empty⊕(List (Int×Bool)):=(bif(((l_.getD k_0 default).kind==4)&&(decide ((l_.getD k_0 default).known<=known)))then .inr (fH .int .bool s_0 ((l_.getD k_0 default).of_) true)else .inr s_0)
def cn (l_:List Deed)(hour:Int)(known:Int):List Deed:=(match aj (dF l_ known) l_.length 0 ([])with| .inl x=>x.elim| .inr s_0=>(ba (aP l_ known hour s_0)))
def dQ (l_:List Deed)(hour:Int)(known:Int):Prop:=(l_.length<=bb->(∀ s_0,aj (dF l_ known) l_.length 0 ([])=.inr s_0->((l_.length*88<=fB)/\((aT l_ known hour s_0)/\(aZ (aP l_ known hour s_0))))))
@[go_sem] def iK:List SV->Option Con:=(pR .deed fun l_=>(pI fun hour=>(pI fun known=>(pE (.det (dQ l_ hour known) (.fn 103 [] [.ep [.rs .deed (cn l_ hour known)] 0]))))))
theorem zq73 {p:Prop}(h:p:=by simp only[go_sem,Nat.reduceBEq,Nat.reduceLeDiff,Nat.reduceLT,decide_true,Nat.reduceAdd,Nat.reduceSub,Nat.reduceMul,Int.reduceLE,Int.reduceLT,Int.reduceToNat,Int.reduceNeg,reduceCtorEq,H1,H2];all_goals exact cl):p:=h
theorem lK:FnOk Tryz.prog 49 iK:=by
 have hG:ConsOk Tryz.prog (mkG [(40,fun l=>iJ (cX [.sl .deed] l))] [(75,dp),(77,cI),(79,dJ)]):=av (cgc (lJ.norm [.sl .deed]) cg0) (cgc ia (cgc gn (cgc ju cg0)));refine aR [.o] mixed al hG (fn:=Tryz.f49) (c:=ae Tryz.f49) kr kr kr kr (dN fun l_=>(cq fun hour=>(cq fun known=>(aD (fun hp=>?_)))));dsimp only[aC]at hp;unfold dQ at hp;refine⟨nbl rfl,(fun id st=>bif Nat.beq id 0 then some (LCR (ρ:=Empty) (σ:=(List (Int×Bool))) 4 [] [0,1,2,3] (fun k_0 s_0=>⟨[(0,.rs .deed l_),(4,.ptr 0 0),(5,.ptr 1 0),(7,.ptr 3 0),(11,.rs .deed l_),(12,.v (.int .i64 (l_.length:Int))),(13,.v (.int .i64 (k_0:Int)))],[.cells [.v (.int .i64 hour)],.cells [.v (.int .i64 known)],.mp .int .bool s_0 none,.cells [.os 2]]⟩) (dF l_ known) pT l_.length ([]) (l_.length<=bb) ((·.elim)) ((·.elim)) st)else none),?_,?_⟩
 ·unfold ae Tryz.f49;simp only[ak,true_and,and_true]
  ·refine d9 mixed al hG kr (fun _=>rfl) (l_.length:Int) rfl gX (fun hb0 k_0 s_0 hlt0 _ hw hc=>⟨L0,ah _,?_⟩) (fun hb0 s_0 hc=>?_)
   ·exact bY (jl [0,1,2,3])
   ·exact bZ (jl [0,1,2,3])
 ·unfold ae Tryz.f49;try unfold cn
  exact zq73
theorem w8 {l0:List Nat}(a0:JL l0){p:Prop}(h:JL l0->p:=by intro ja;(first|done|(repeat' (first|with_reducible refine And.intro ?_ ?_|((with_reducible show _≠_);first|assumption|omega|(simp_all [cO,dK];done) |grind) |with_reducible intro _)) <;>(first|done|with_reducible exact Empty.elim ‹Empty› |with_reducible assumption|rfl|omega|assumption|decide|exact fk ja|(refine Or.inr ?_;exact fkY ja) |(refine Or.inl ?_;exact fkY ja) |(refine Or.inl ⟨rfl,?_⟩;exact fkY ja) |exact czl|(simp only[*,cond_true,cond_false,Bool.not_true,Bool.not_false,go_sem,Nat.reduceBEq,Nat.reduceLeDiff,Nat.reduceLT,decide_true,Nat.reduceAdd,Nat.reduceSub,Nat.reduceMul,Int.reduceLE,Int.reduceLT,Int.reduceToNat,Int.reduceNeg,reduceCtorEq];(repeat' (first|with_reducible refine And.intro ?_ ?_|((with_reducible show _≠_);first|assumption|omega|(simp_all [cO,dK];done) |grind) |with_reducible intro _)) <;>(first|done|assumption|rfl|omega|decide|exact fk ja|(refine Or.inr ?_;exact fkY ja) |(refine Or.inl ?_;exact fkY ja) |(refine Or.inl ⟨rfl,?_⟩;exact fkY ja) |(simp_all [cO,dK];done))) |(exfalso;rename_i h1 h2;rw[h1]at h2;cases h2) |(exfalso;rename_i h1 h2;simp only[h1,Bool.not_false,Bool.not_true,Bool.true_or,Bool.or_true,Bool.false_or,Bool.or_false,reduceCtorEq]at h2;done) |(exfalso;clear hy hG;simp_all;done) |(simp only[*,Sum.inr.injEq,forall_eq',true_implies,forall_const,reduceCtorEq,false_implies,and_true,List.length_append,List.length_cons,List.length_nil,Nat.zero_add,go_sem,Nat.reduceBEq,Nat.reduceLeDiff,Nat.reduceLT,decide_true,Nat.reduceAdd,Nat.reduceSub,Nat.reduceMul,Int.reduceLE,Int.reduceLT,Int.reduceToNat,Int.reduceNeg,reduceCtorEq]at hq2;first|exact hq2.1|exact hq2.2.1|exact hq2|exact hq2.2|(simp only[hq2];done)) |(simp only[*,Sum.inr.injEq,forall_eq',true_implies,forall_const,reduceCtorEq,false_implies,and_true,List.length_append,List.length_cons,List.length_nil,Nat.zero_add,go_sem,Nat.reduceBEq,Nat.reduceLeDiff,Nat.reduceLT,decide_true,Nat.reduceAdd,Nat.reduceSub,Nat.reduceMul,Int.reduceLE,Int.reduceLT,Int.reduceToNat,Int.reduceNeg,reduceCtorEq]at hq1;first|exact hq1.1|exact hq1.2.1|exact hq1|exact hq1.2|(simp only[hq1];done)) |(clear hy hG;simp_all only[cO,dK,Sum.inr.injEq,forall_eq',true_implies,forall_const,reduceCtorEq,false_implies,and_true,List.length_append,List.length_cons,List.length_nil,Nat.zero_add,go_sem,Nat.reduceBEq,Nat.reduceLeDiff,Nat.reduceLT,decide_true,Nat.reduceAdd,Nat.reduceSub,Nat.reduceMul,Int.reduceLE,Int.reduceLT,Int.reduceToNat,Int.reduceNeg,reduceCtorEq];done) |(simp_all [okI,cO,dK];done) |(simp_all [cO,dK];(first|done|exact fk2 ja)) |exact fk2 ja))):p:=h a0
theorem H3 {l0:List Nat}(a0:JL l0){p:Prop}(h:JL l0->p:=by intro ja;simp only[go_sem,Nat.reduceBEq,Nat.reduceLeDiff,Nat.reduceLT,decide_true,Nat.reduceAdd,Nat.reduceSub,Nat.reduceMul,Int.reduceLE,Int.reduceLT,Int.reduceToNat,Int.reduceNeg,reduceCtorEq,hc,hw];all_goals exact w8 ja):p:=h a0
theorem H4 {l0:List Nat}(a0:JL l0){p:Prop}(h:JL l0->p:=by intro ja;simp only[go_sem,Nat.reduceBEq,Nat.reduceLeDiff,Nat.reduceLT,decide_true,Nat.reduceAdd,Nat.reduceSub,Nat.reduceMul,Int.reduceLE,Int.reduceLT,Int.reduceToNat,Int.reduceNeg,reduceCtorEq,hc];all_goals exact w8 ja):p:=h a0
@[go_sem] def uv (x:Deed):List SV:=[.agg (cellsOf .deed x)]
@[go_sem] def bO (l_:List Deed)(k_0:Nat)(s_0:List Deed):Empty⊕(List Deed):=.inr (s_0++[(l_.getD k_0 default)])
def co (l_:List Deed)(items_:List (List SV))(k_0:Nat)(s_0:List Deed):Prop:=(items_[s_0.length]? =some (uv (l_.getD k_0 default)))
def aF (l_:List Deed):List Deed:=(match aj (bO l_) l_.length 0 ([]:List Deed)with| .inl x=>x.elim| .inr s_0=>s_0)
def bV (l_:List Deed)(items_:List (List SV)):Prop:=letI q0:=bO l_;(l_.length<=bb->(okI q0 (co l_ items_) l_.length 0 ([]:List Deed)/\(∀ s_0,aj q0 l_.length 0 ([]:List Deed)=.inr s_0->(items_.length=s_0.length))))
theorem zq74 {l0:List Nat}(a0:JL l0){p:Prop}(h:JL l0->p:=by intro ja;simp only[go_sem,Nat.reduceBEq,Nat.reduceLeDiff,Nat.reduceLT,decide_true,Nat.reduceAdd,Nat.reduceSub,Nat.reduceMul,Int.reduceLE,Int.reduceLT,Int.reduceToNat,Int.reduceNeg,reduceCtorEq];all_goals exact w8 ja):p:=h a0
theorem iL (l_:List Deed)(items_:List (List SV))(hp:bV l_ items_):C8 Tryz.prog 103 (fun y=>[y,.ep [.rs .deed l_] 0]) [] items_:=by
 unfold bV at hp;refine NL mixed al (fn:=Tryz.f103) (c:=ae Tryz.f103) kr kr kr kr rfl (n:=0) rfl (G:=fun r_=>Dc [] [] (KI items_ r_)) (fun r_ hy=>?_) (fun args w=>by kernel_rfl);have hG:ConsOk Tryz.prog (Dc [] [] (KI items_ r_)):=Ek cg0 cg0 hy;refine⟨hG,nbl rfl,(fun id st=>bif Nat.beq id 0 then some (LCY (ρ:=Empty) (σ:=(List Deed)) 1 [] [0] (fun k_0 s_0=>⟨[(0,.os 0),(5,.rs .deed l_),(6,.v (.int .i64 (l_.length:Int))),(7,.v (.int .i64 (k_0:Int)))],[.ab (r_.1 (s_0.length+1))]⟩) (bO l_) (co l_ items_) l_.length ([]:List Deed) (l_.length<=bb) ((·.elim)) ((·.elim)) ⟨[],[.ab (r_.1 0)]⟩ st)else none),?_,?_⟩
 ·unfold ae Tryz.f103;simp only[ak,true_and,and_true]
  ·refine HU mixed al hG kr (fun _=>rfl) (l_.length:Int) rfl gX (fun hb0 k_0 s_0 hlt0 hq0 hw hc=>⟨L0,ah _,?_⟩) (fun hb0 s_0 hc=>?_)
   ·unfold co at hq0;try simp only[hw,Int.toNat_natCast]at hq0
    exact H3 (jl [0])
   ·exact H4 (jl [0])
 ·unfold ae Tryz.f103;exact zq74 (jl [0])
@[go_sem] theorem T5 {f:FuncId}:tq (.fn f [] [])=some [.fn f [] []]:=(rfl)
theorem tY {κ υ:Type}[DecidableEq κ](l:List (κ×υ))(x z:κ)(y:υ):eM (rO l x y) z=if z=x then some y else eM l z:=by
 induction l with
 |nil=>simp[rO,eM]
 |cons a r ih=>
  obtain⟨a,b⟩:=a;unfold rO;by_cases h:x=a
  ·subst h;simp only[if_pos];unfold eM;by_cases hz:z=x <;>simp[hz]
  ·rw[if_neg h];unfold eM;by_cases hz:z=a
   ·subst hz;rw[if_pos rfl,if_neg (fun e=>h e.symm),if_pos rfl]
   ·rw[if_neg hz,ih,if_neg hz]
def dP:List (Int×(Option Nat)):=(fH .int .fnc (fH .int .fnc (fH .int .fnc ([]) 1 (some 98)) 2 (some 99)) 3 (some 100))
@[go_sem] def oh:List SV->Option Con:=(pE (.det True (.nm .int .fnc (dP))))
theorem sJ:FnOk Tryz.prog 73 oh:=by
 have hG:ConsOk Tryz.prog (mkG [] []):=av cg0 cg0;refine nI [] mixed al hG (fn:=Tryz.f73) (c:=ae Tryz.f73) kr kr kr kr (aD (fun hp=>?_));dsimp only[aC]at hp;refine⟨nbl rfl,L0,ah _,?_⟩
 ·unfold ae Tryz.f73;try unfold dP
  exact zq1
theorem oi (k:Int):dL .int .fnc dP k=bif k==1 then some 98 else bif k==2 then some 99 else bif k==3 then some 100 else none:=by
 by_cases h1:k=1
 ·subst h1;rfl
 by_cases h2:k=2
 ·subst h2;rfl
 by_cases h3:k=3
 ·subst h3;rfl
 have e1:(k==1)=false:=by simpa using h1
 have e2:(k==2)=false:=by simpa using h2
 have e3:(k==3)=false:=by simpa using h3
 rw[e1,e2,e3];simp only[dP,dL,fH,tY,if_neg h1,if_neg h2,if_neg h3];rfl
theorem jA {n i:Nat}{step:Nat->Unit->Unit⊕Unit}{s:Unit}(h:aj step n i s=.inr s):∀ j,i<=j->j<i+n->step j ()=.inr ():=by
 induction n generalizing i with
 |zero=>intro j h1 h2;omega
 |succ n ih=>
  simp only[aj]at h;cases hs:step i s with
  |inl r=>rw[hs]at h;cases h
  |inr s'=>
   rw[hs]at h;intro j h1 h2;by_cases e:j=i
   ·subst e;cases s;exact hs
   ·exact ih h j (by omega) (by omega)
theorem eV {b:Bool}{e:Int}:cm b e=b:=by
 cases b <;>rfl
theorem vn {a b c:Int}(h:ax [a,b,c]=true):a<=b/\b<=c:=by
 unfold ax at h;simp only[List.length_cons,List.length_nil,Nat.zero_add,Nat.reduceAdd,Nat.reduceSub]at h;split at h
 ·cases h
 ·rename_i s hs;have h0:=jA hs 0 (by omega) (by omega);have h1:=jA hs 1 (by omega) (by omega);simp[bB,IntKind.wrap,IntKind.bits,IntKind.signed]at h0 h1;constructor
  ·cases hd:decide (b<a) <;>simp_all <;>omega
  ·cases hd:decide (c<b) <;>simp_all <;>omega
theorem Ae {a b c d:Int}(h:ax [a,b,c,d]=true):a<=b/\b<=c/\c<=d:=by
 unfold ax at h;simp only[List.length_cons,List.length_nil,Nat.zero_add,Nat.reduceAdd,Nat.reduceSub]at h;split at h
 ·cases h
 ·rename_i s hs;have h0:=jA hs 0 (by omega) (by omega);have h1:=jA hs 1 (by omega) (by omega);have h2:=jA hs 2 (by omega) (by omega);simp[bB,IntKind.wrap,IntKind.bits,IntKind.signed]at h0 h1 h2;refine⟨?_,?_,?_⟩
  ·cases hd:decide (b<a) <;>simp_all <;>omega
  ·cases hd:decide (c<b) <;>simp_all <;>omega
  ·cases hd:decide (d<c) <;>simp_all <;>omega
structure Right1 (d:District):Prop where
 reaches:d.reaches.length<=64
 one:0<d.reaches.length
 farms:d.farms.length<=600
 rights:d.rights.length<=256
 hours1:1<=d.hours
 hours:d.hours<=4096
 start0:0<=d.tank.start
 start:d.tank.start<=d.tank.cap
 cap:d.tank.cap<=1099511627776
 reach:∀ k,k<d.reaches.length->fo (k:Int) (d.reaches.getD k default)=true
 farm:∀ k,k<d.farms.length->0<=(d.farms.getD k default).reach/\(d.farms.getD k default).reach< (d.reaches.length:Int)
theorem uw {d:District}(h:(bg d !=0)=false):Right1 d:=by
 have h:bg d=0:=by simpa using h
 unfold bg at h;simp only[eV]at h;cases h1:(decide ((d.reaches.length:Int)<=64)&&decide ((d.farms.length:Int)<=600)&&decide ((d.crops.length:Int)<=32)&&decide ((d.rights.length:Int)<=256)&&decide ((d.duties.length:Int)<=256))with
 |false=>rw[h1]at h;simp at h
 |true=>
  rw[h1]at h;simp only[cond_true]at h;cases h2:cV d 191 with
  |false=>rw[h2]at h;simp at h
  |true=>
   unfold cV at h2;simp only[eV]at h2;cases h3:(ax [1,d.hours,4096]&&ax [0,d.tank.start,d.tank.cap,1099511627776]&&decide ((d.reaches.length:Int) > 0))with
   |false=>rw[h3]at h2;simp at h2
   |true=>
    rw[h3]at h2;simp only[cond_true]at h2;simp only[Bool.and_eq_true,decide_eq_true_eq]at h1 h3;obtain⟨r1,r2⟩:=vn h3.1.1;obtain⟨r3,r4,r5⟩:=Ae h3.1.2;split at h2
    ·cases h2
    rename_i s0 hs0;split at h2
    ·cases h2
    rename_i s1 hs1;split at h2
    ·cases h2
    rename_i s2 hs2;refine⟨by omega,by omega,by omega,by omega,r1,r2,r3,r4,r5,fun k hk=>?_,fun k hk=>?_⟩
    ·have:=jA hs0 k (by omega) (by omega);simp only[cA,eV]at this;cases he:fo (k:Int) (d.reaches.getD k default)with
     |false=>rw[he]at this;simp at this
     |true=>rfl
    ·have:=jA hs2 k (by omega) (by omega);simp only[cB,eV]at this;have hx:bT (d.farms.getD k default).reach (d.reaches.length:Int)=true:=by
      cases he:bT (d.farms.getD k default).reach (d.reaches.length:Int)with
      |false=>rw[he]at this;cases hd:decide ((d.farms.getD k default).area > 0) <;>rw[hd]at this <;>simp at this
      |true=>rfl
     simpa[bT]using hx
theorem tZ {k:Nat}(h:k<9223372036854775807)(h1:0<k):i64.wrap ((k:Int) - 1)=((k - 1:Nat):Int):=by
 rw[a8 (by omega) (by omega)];omega
theorem yS {step:Nat->Unit->Unit⊕Unit}:∀ {n i:Nat},(∀ j,i<=j->j<i+n->step j ()=.inr ())->aj step n i ()=.inr ()
 |0,_,_=>rfl
 |n+1,i,h=>by
  simp only[aj];rw[h i (by omega) (by omega)];exact yS fun j h1 h2=>h j (by omega) (by omega)
theorem eh {step:Nat->Unit->Unit⊕Unit}{n:Nat}:aj step n 0 ()=.inr ()↔∀ j,j<n->step j ()=.inr ():=
 ⟨fun h j hj=>jA h j (by omega) (by omega),fun h=>yS fun j _ h2=>h j (by omega)⟩
theorem jh {α:Type}(l:List α)(d:α){n:Nat}(h:n<l.length):l.getD n d=l[n]:=by
 rw[List.getD_eq_getElem?_getD,List.getElem?_eq_getElem h];rfl
theorem NS {step:Nat->Unit->Unit⊕Unit}{n:Nat}{α:Type}{a b:α}:(match aj step n 0 ()with| .inl _=>a| .inr _=>b)=b\/∃ y,aj step n 0 ()=.inl y:=by
 cases h:aj step n 0 ()with
 |inl y=>exact .inr ⟨y,rfl⟩
 |inr y=>exact .inl rfl
theorem w_ {a b c:Int}(h1:a<=b)(h2:b<=c):ax [a,b,c]=true:=by
 have e:aj (bB [a,b,c]) 2 0 ()=.inr ():=eh.2 fun j hj=>by
  rcases(by omega:j=0\/j=1)with rfl|rfl
  ·simp[bB,IntKind.wrap,IntKind.bits,IntKind.signed,Bool.cond_eq_ite];omega
  ·simp[bB,IntKind.wrap,IntKind.bits,IntKind.signed,Bool.cond_eq_ite];omega
 unfold ax;simp only[List.length_cons,List.length_nil,Nat.zero_add,Nat.reduceAdd,Nat.reduceSub,e]
theorem xa {a b c d:Int}(h1:a<=b)(h2:b<=c)(h3:c<=d):ax [a,b,c,d]=true:=by
 have e:aj (bB [a,b,c,d]) 3 0 ()=.inr ():=eh.2 fun j hj=>by
  rcases(by omega:j=0\/j=1\/j=2)with rfl|rfl|rfl
  ·simp[bB,IntKind.wrap,IntKind.bits,IntKind.signed,Bool.cond_eq_ite];omega
  ·simp[bB,IntKind.wrap,IntKind.bits,IntKind.signed,Bool.cond_eq_ite];omega
  ·simp[bB,IntKind.wrap,IntKind.bits,IntKind.signed,Bool.cond_eq_ite];omega
 unfold ax;simp only[List.length_cons,List.length_nil,Nat.zero_add,Nat.reduceAdd,Nat.reduceSub,e]
theorem uz (d:District):bg d=0↔(d.reaches.length<=64/\d.farms.length<=600/\d.crops.length<=32/\d.rights.length<=256/\d.duties.length<=256)/\(1<=d.hours/\d.hours<=4096)/\(0<=d.tank.start/\d.tank.start<=d.tank.cap/\d.tank.cap<=1099511627776)/\0<d.reaches.length/\
  (∀ k,k<d.reaches.length->cA d 191 k ()=.inr ())/\(∀ k,k<d.crops.length->cT d 191 k ()=.inr ())/\(∀ k,k<d.farms.length->cB d 191 k ()=.inr ())/\(∀ k,k<d.rights.length->cU d 191 k ()=.inr ())/\(∀ k,k<d.duties.length->dw d 191 k ()=.inr ()):=by
 have hx:cV d 191=true↔(1<=d.hours/\d.hours<=4096)/\(0<=d.tank.start/\d.tank.start<=d.tank.cap/\d.tank.cap<=1099511627776)/\0<d.reaches.length/\
  (∀ k,k<d.reaches.length->cA d 191 k ()=.inr ())/\(∀ k,k<d.crops.length->cT d 191 k ()=.inr ())/\(∀ k,k<d.farms.length->cB d 191 k ()=.inr ())/\(∀ k,k<d.rights.length->cU d 191 k ()=.inr ())/\(∀ k,k<d.duties.length->dw d 191 k ()=.inr ()):=by
  unfold cV;simp only[eV];cases h3:(ax [1,d.hours,4096]&&ax [0,d.tank.start,d.tank.cap,1099511627776]&&decide ((d.reaches.length:Int) > 0))with
  |false=>
   simp only[cond_false,Bool.false_eq_true,false_iff];rintro⟨⟨a1,a2⟩,⟨a3,a4,a5⟩,a6,_⟩;rw[w_ a1 a2,xa a3 a4 a5,decide_eq_true (by omega:(d.reaches.length:Int) > 0)]at h3;cases h3
  |true=>
   simp only[Bool.and_eq_true,decide_eq_true_eq]at h3;have b1:=vn h3.1.1;have b2:=Ae h3.1.2;have b3:=h3.2;simp only[cond_true];rw[<-eh,<-eh,<-eh,<-eh,<-eh]
   repeat' split
   all_goals (rename_i e;first|simp_all;done|skip)
   all_goals simp_all
   all_goals omega
 unfold bg;simp only[eV];rw[<-hx];cases h1:(((((decide ((d.reaches.length:Int)<=64))&&(decide ((d.farms.length:Int)<=600)))&&(decide ((d.crops.length:Int)<=32)))&&(decide ((d.rights.length:Int)<=256)))&&(decide ((d.duties.length:Int)<=256)))with
 |false=>
  simp only[cond_false];simp only[Bool.and_eq_false_iff,decide_eq_false_iff_not]at h1;omega
 |true=>
  simp only[Bool.and_eq_true,decide_eq_true_eq]at h1;cases cV d 191 <;>simp <;>omega
theorem BD:∀ (f n d:Nat),1<=d->d<=f->1<=n->∀ x,(tL f n d).getLastD x=Nat.gcd n d
 |0,n,d,h1,h2,_,x=>by omega
 |f+1,n,d,h1,h2,h3,x=>by
  unfold tL;have hm:max d 1=d:=by omega
  rw[if_neg (by omega),hm];by_cases h0:n % d=0
  ·rw[if_pos h0];have:d ∣ n:=Nat.dvd_of_mod_eq_zero h0;rw[Nat.gcd_eq_right this];rfl
  ·rw[if_neg h0];have hlt:n % d<d:=Nat.mod_lt _ (by omega);have ih:=BD f d (n % d) (by omega) (by omega) (by omega) n;have e:Nat.gcd n d=Nat.gcd d (n % d):=by rw[Nat.gcd_comm n d,Nat.gcd_rec d n,Nat.gcd_comm]
   rw[e,<-ih,List.getLastD_cons]
theorem xb {n d:Nat}(h:1<=d):Bx n d=Nat.gcd n d:=by
 unfold Bx;rw[if_neg (by omega)];by_cases h0:n=0
 ·subst h0;cases d with
  |zero=>omega
  |succ d=>simp[tL]
 ·exact BD d n d h (Nat.le_refl _) (by omega) d
theorem Af (b0:Int):∀ (n i:Nat) (a b:Int),0<=a->0<=b->b.toNat<n->aj (eI b0) n i (a,b)=.inl ((Nat.gcd a.toNat b.toNat:Nat):Int)
 |0,_,_,_,_,_,h=>by omega
 |n+1,i,a,b,ha,hb,h=>by
  simp only[aj,eI];by_cases h0:b > 0
  ·rw[decide_eq_true h0];simp only[cond_true];have e1:=Int.tmod_eq_emod_of_nonneg (b:=b) ha;have e2:=Int.emod_nonneg a (by omega:b≠0);have e3:=Int.emod_lt_of_pos a h0;rw[e1,Af b0 n (i+1) b (a % b) hb e2 (by omega)];have e4:(a % b).toNat=a.toNat % b.toNat:=by
    obtain⟨x,rfl⟩:=Int.eq_ofNat_of_zero_le ha;obtain⟨y,rfl⟩:=Int.eq_ofNat_of_zero_le hb;simp only[<-Int.natCast_emod,Int.toNat_natCast]
   rw[e4,Nat.gcd_comm a.toNat b.toNat,Nat.gcd_rec b.toNat a.toNat,Nat.gcd_comm]
  ·rw[decide_eq_false h0];have:b=0:=by omega
   subst this;simp only[cond_false,Int.toNat_zero,Nat.gcd_zero_right];rw[Int.toNat_of_nonneg ha]
theorem uA {a b:Int}(ha:0<=a)(hb:0<=b):iU a b=((Nat.gcd a.toNat b.toNat:Nat):Int):=by
 unfold iU;rw[Af b _ 0 a b ha hb (by omega)]
theorem FF {a b:Int}(ha:0<=a)(hb:0<=b):je a b:=by
 refine⟨iu _ _ _ fun j s _ _ h=>?_,fun z h=>?_⟩
 ·simp only[decide_eq_true_eq]at h;omega
 ·rw[Af b _ 0 a b ha hb (by omega)]at h;cases h
theorem BE {n:Int}(h0:0<=n)(h1:n<18446744073709551616):u64.wrap n=n:=by
 simp only[IntKind.wrap,IntKind.bits,IntKind.signed];simp;omega
theorem xX {n:Int}(h0: -1073741824<=n)(h1:n<=1073741824):bW n=(n.natAbs:Int):=by
 unfold bW;by_cases h:n<0
 ·rw[decide_eq_true h];simp only[cond_true,IntKind.wrap,IntKind.bits,IntKind.signed];simp;omega
 ·rw[decide_eq_false h];simp only[cond_false];rw[BE (by omega) (by omega)];omega
theorem xc {n:Int}(h0: -1073741824<=n)(h1:n<=1073741824):kz n=(n.natAbs:Int):=by
 unfold kz;by_cases h:n<0
 ·rw[decide_eq_true h];simp only[cond_true];rw[a8 (by omega) (by omega)];omega
 ·rw[decide_eq_false h];simp only[cond_false];omega
structure RatioOk (a:Ratio):Prop where
 d1:1<=a.d
 d:a.d<=1073741824
 n0: -1073741824<=a.n
 n:a.n<=1073741824
 gcd:Nat.gcd a.n.natAbs a.d.toNat=1
theorem dR (a:Ratio):az a=0↔RatioOk a:=by
 unfold az;cases h:((((decide (a.d<1)) ||(decide (a.d > 1073741824))) ||(decide (a.n< (-1073741824)))) ||(decide (a.n > 1073741824)))with
 |true=>
  simp only[Bool.true_or,cond_true];simp only[Bool.or_eq_true,decide_eq_true_eq]at h;refine⟨fun e=>(by cases e),fun r=>?_⟩;have:=r.d1;have:=r.d;have:=r.n0;have:=r.n;omega
 |false=>
  simp only[Bool.or_eq_false_iff,decide_eq_false_iff_not]at h;rw[xX (by omega) (by omega),BE (by omega) (by omega),Int.toNat_natCast,xb (by omega)];simp only[Bool.false_or];by_cases hg:Nat.gcd a.n.natAbs a.d.toNat=1
  ·rw[hg];exact⟨fun _=>⟨by omega,by omega,by omega,by omega,hg⟩,fun _=>rfl⟩
  ·have:((Nat.gcd a.n.natAbs a.d.toNat:Nat):Int)≠1:=by omega
   rw[bne_iff_ne.2 this];exact⟨fun e=>(by cases e),fun r=>absurd r.gcd hg⟩
theorem mE (a:Ratio):cF a=true↔RatioOk a:=by
 unfold cF;constructor
 ·intro h;simp only[Bool.and_eq_true,decide_eq_true_eq,beq_iff_eq]at h;obtain⟨⟨⟨⟨h1,h2⟩,h3⟩,h4⟩,h5⟩:=h;rw[xc (by omega) (by omega),uA (by omega) (by omega),Int.toNat_natCast]at h5;exact⟨h1,h2,h3,h4,by omega⟩
 ·intro r;have:=r.d1;have:=r.d;have:=r.n0;have:=r.n;simp only[Bool.and_eq_true,decide_eq_true_eq,beq_iff_eq];rw[xc (by omega) (by omega),uA (by omega) (by omega),Int.toNat_natCast,r.gcd];exact⟨⟨⟨⟨by omega,by omega⟩,by omega⟩,by omega⟩,rfl⟩
theorem xd (a:Ratio):az a=0\/az a=120:=by
 unfold az;rw[Bool.cond_eq_ite];split <;>simp
theorem BF (a:Ratio):az a=ft a:=by
 unfold ft;cases h:cF a with
 |true=>exact(dR a).2 ((mE a).1 h)
 |false=>
  have:az a≠0:=fun e=>by
   have:=(mE a).2 ((dR a).1 e);rw[h]at this;cases this
  have:=xd a;simp only[Bool.not_false,cond_true];omega
theorem oj (a:Ratio):cF a=(az a==0):=by
 cases h:cF a with
 |true=>rw[(dR a).2 ((mE a).1 h)];rfl
 |false=>
  have:az a≠0:=fun e=>by
   have:=(mE a).2 ((dR a).1 e);rw[h]at this;cases this
  simp[this]
theorem NT (a b:Ratio):kx a b=kC a b:=by
 unfold kx kC gl mS;rw[oj,oj,lI];generalize i64.wrap (a.n*b.d)=x;generalize i64.wrap (b.n*a.d)=y;cases h1:(az a==0) <;>cases h2:(az b==0) <;>simp[bne,h1,h2,Bool.cond_eq_ite];split
 ·rfl
 ·split <;>rfl
theorem sK (a:Ratio):eE a:=fun h=>by
 simp only[Bool.and_eq_true,decide_eq_true_eq]at h;rw[xc (by omega) (by omega)];exact FF (by omega) (by omega)
theorem Dh (a b:Ratio):jR a b:=⟨sK a,fun _=>sK b⟩
theorem mF (a b c:Int):ax [a,b,c]=(decide (a<=b)&&decide (b<=c)):=by
 cases h:ax [a,b,c]with
 |true=>have:=vn h;simp[this.1,this.2]
 |false=>
  by_cases h1:a<=b
  ·by_cases h2:b<=c
   ·rw[w_ h1 h2]at h;cases h
   ·simp[h2]
  ·simp[h1]
theorem ol (a b c d:Int):ax [a,b,c,d]=(decide (a<=b)&&decide (b<=c)&&decide (c<=d)):=by
 cases h:ax [a,b,c,d]with
 |true=>have:=Ae h;simp[this.1,this.2.1,this.2.2]
 |false=>
  by_cases h1:a<=b
  ·by_cases h2:b<=c
   ·by_cases h3:c<=d
    ·rw[xa h1 h2 h3]at h;cases h
    ·simp[h3]
   ·simp[h2]
  ·simp[h1]
theorem Si {a b:Bool}(h:a=true↔b=true):a=b:=by cases a <;>cases b <;>simp_all
theorem H5 (x:Ratio×Ratio):jP x=d5 x:=by
 unfold jP d5;rw[NT,<-BF,<-BF];unfold kC gl;rw[oj,oj];cases h1:(az x.1==0) <;>cases h2:(az x.2==0) <;>simp[bne,h1,h2,Bool.cond_eq_ite]
 repeat' split
 all_goals simp
theorem NU (i:Int)(x:Reach):fo i x=true↔((i > 0/\0<=x.up/\x.up<i)\/(¬i > 0/\x.up= -1))/\(1<=x.delay/\x.delay<=16)/\(0<=x.siphon/\x.siphon<=x.cap/\x.cap<=1073741824)/\(x.siphon<=x.bank/\x.bank<=1099511627776)/\(0<=x.evap.lo/\x.evap.lo<=x.evap.hi/\x.evap.hi<=1073741824)/\d5 x.seep=true:=by
 unfold fo bT;rw[H5,mF,ol,ol,ol];generalize d5 x.seep=q;by_cases h:i > 0
 ·rw[decide_eq_true h];simp only[cond_true,Bool.and_eq_true,decide_eq_true_eq];cases q <;>simp only[Bool.false_eq_true,and_false,and_true] <;>omega
 ·rw[decide_eq_false h];simp only[cond_false,Bool.and_eq_true,decide_eq_true_eq,beq_iff_eq];cases q <;>simp only[Bool.false_eq_true,and_false,and_true] <;>omega
theorem NV (x:Reach):lD x=true↔(1<=x.delay/\x.delay<=16)/\(0<=x.siphon/\x.siphon<=x.cap/\x.cap<=1073741824)/\(x.siphon<=x.bank/\x.bank<=1099511627776)/\(0<=x.evap.lo/\x.evap.lo<=x.evap.hi/\x.evap.hi<=1073741824)/\d5 x.seep=true:=by
 unfold lD aw;generalize d5 x.seep=q;have hb:∀ (A B:Bool) (q:Bool),(bif A then false else bif B then false else q)=true↔A=false/\B=false/\q=true:=fun A B q=>by cases A <;>cases B <;>simp
 rw[hb];simp only[Bool.or_eq_false_iff,Bool.not_eq_false',Bool.and_eq_true,decide_eq_true_eq,decide_eq_false_iff_not];by_cases h:x.bank<x.cap
 ·rw[if_pos h];cases q <;>simp only[Bool.false_eq_true,and_false,and_true] <;>omega
 ·rw[if_neg h];cases q <;>simp only[Bool.false_eq_true,and_false,and_true] <;>omega
theorem xe (l:List Reach)(k:Nat)(hk:k<4096):eJ l k ()=.inr ()↔fo (k:Int) (l.getD k default)=true:=by
 unfold eJ aw;rw[NU];have hb:∀ A B:Bool,((bif A then Sum.inl ()else bif B then Sum.inl ()else Sum.inr ()):Unit⊕Unit)=.inr ()↔A=false/\B=false:=fun A B=>by cases A <;>cases B <;>simp
 rw[hb,Bool.not_eq_false',NV];generalize l.getD k default=x;generalize d5 x.seep=q;by_cases h:0<k
 ·rw[tZ (by omega) h];simp only[Bool.or_eq_false_iff,Bool.and_eq_false_iff,Bool.not_eq_false',Bool.and_eq_true,decide_eq_true_eq,decide_eq_false_iff_not,beq_eq_false_iff_ne,bne_eq_false_iff_eq];cases q <;>simp only[Bool.false_eq_true,and_false,and_true] <;>omega
 ·have:k=0:=by omega
  subst this;simp only[Bool.or_eq_false_iff,Bool.and_eq_false_iff,Bool.not_eq_false',Bool.and_eq_true,decide_eq_true_eq,decide_eq_false_iff_not,beq_eq_false_iff_ne,bne_eq_false_iff_eq];cases q <;>simp only[Bool.false_eq_true,and_false,and_true] <;>omega
theorem FG {n:Nat}(h:n<=4096):i64.wrap ((n:Int) - 1)=(n:Int) - 1:=a8 (by omega) (by omega)
theorem KP (x:ByteArray):(x==x)=true:=by
 cases x with
 |mk d=>
  show(d==d)=true;simp
theorem H6 (d:District)(x:Right)(h1:d.farms.length<=600)(h2:d.reaches.length<=64)(h3:1<=d.hours)(h4:d.hours<=4096):fq d x=lF d x:=by
 unfold fq lF bT aw;rw[ol,mF,mF,ol,FG (by omega),FG (by omega),a8 (by omega: -9223372036854775808<=d.hours - 1) (by omega)];rw[KP];refine Si ?_;have hb:∀ (A q:Bool),(bif A then false else q)=true↔A=false/\q=true:=fun A q=>by cases A <;>simp
 rw[hb,hb];have hc:∀ (k1 k2 k3 a b c:Bool),(bif k1 then a else bif k2 then b else bif k3 then c else false)=true↔(k1=true/\a=true)\/(k1=false/\k2=true/\b=true)\/(k1=false/\k2=false/\k3=true/\c=true):=fun k1 k2 k3 a b c=>by cases k1 <;>cases k2 <;>cases k3 <;>simp
 rw[hc,hc];simp only[Bool.or_eq_false_iff,Bool.and_eq_true,Bool.not_eq_false',decide_eq_true_eq,decide_eq_false_iff_not,beq_iff_eq,beq_eq_false_iff_ne,and_true,true_and];omega
theorem ux (A:Bool):((bif A then Sum.inr ()else Sum.inl ()):Unit⊕Unit)=.inr ()↔A=true:=by cases A <;>simp
theorem uy (A:Bool):((bif A then Sum.inl ()else Sum.inr ()):Unit⊕Unit)=.inr ()↔A=false:=by cases A <;>simp
theorem yT (d:District)(k:Nat):gY d k ()=.inr ()↔cT d 191 k ()=.inr ():=by
 unfold gY cT aw;rw[eV,uy,ux,mF];simp only[Bool.not_eq_false',Bool.and_eq_true,decide_eq_true_eq,ge_iff_le]
theorem yU (d:District)(k:Nat)(h1:d.reaches.length<=64)(h2:d.crops.length<=32):gZ d k ()=.inr ()↔cB d 191 k ()=.inr ():=by
 unfold gZ cB aw bT;simp only[eV];rw[mF,FG (by omega),FG (by omega)];generalize d.farms.getD k default=x;have hb:∀ A B:Bool,((bif A then Sum.inl ()else bif B then Sum.inl ()else Sum.inr ()):Unit⊕Unit)=.inr ()↔A=false/\B=false:=fun A B=>by cases A <;>cases B <;>simp
 rw[hb];by_cases h:x.area > 0
 ·rw[decide_eq_true h];simp only[Bool.true_and,Bool.false_and,Bool.or_false,cond_true,ux,Bool.or_eq_false_iff,Bool.and_eq_false_iff,Bool.not_eq_false',Bool.and_eq_true,decide_eq_true_eq,decide_eq_false_iff_not,beq_eq_false_iff_ne,bne_eq_false_iff_eq];omega
 ·rw[decide_eq_false h];simp only[Bool.true_and,Bool.false_and,Bool.or_false,cond_false,ux,Bool.or_eq_false_iff,Bool.and_eq_false_iff,Bool.not_eq_false',Bool.and_eq_true,decide_eq_true_eq,decide_eq_false_iff_not,beq_eq_false_iff_ne,bne_eq_false_iff_eq,beq_iff_eq];omega
theorem yV (d:District)(k:Nat)(h1:d.reaches.length<=64)(h2:d.farms.length<=600):g6 d k ()=.inr ()↔dw d 191 k ()=.inr ():=by
 unfold g6 dw aw bT;simp only[eV];rw[mF,FG (by omega),FG (by omega),ux,uy];simp only[Bool.or_eq_false_iff,Bool.not_eq_false',Bool.and_eq_true,decide_eq_true_eq];omega
theorem uB (d:District)(k:Nat)(h1:d.farms.length<=600)(h2:d.reaches.length<=64)(h3:1<=d.hours)(h4:d.hours<=4096):g5 d k ()=.inr ()↔cU d 191 k ()=.inr ():=by
 unfold g5 cU;rw[eV,H6 d _ h1 h2 h3 h4,ux,uy,Bool.not_eq_false']
theorem m1 {r:Unit⊕Unit}{a b:Bool}:(match r with| .inl _=>a| .inr _=>b)=true↔(r=.inr ()/\b=true)\/((∃ y,r=.inl y)/\a=true):=by
 cases r with
 |inl y=>simp
 |inr y=>simp
theorem BG (d:District)(h1:d.reaches.length<=64)(h2:d.farms.length<=600)(h3:d.crops.length<=32):jz d=true↔(1<=d.hours/\d.hours<=4096)/\(0<=d.tank.start/\d.tank.start<=d.tank.cap/\d.tank.cap<=1099511627776)/\0<d.reaches.length/\
  (∀ k,k<d.reaches.length->cA d 191 k ()=.inr ())/\(∀ k,k<d.crops.length->cT d 191 k ()=.inr ())/\(∀ k,k<d.farms.length->cB d 191 k ()=.inr ())/\(∀ k,k<d.rights.length->cU d 191 k ()=.inr ())/\(∀ k,k<d.duties.length->dw d 191 k ()=.inr ()):=by
 have hR:iW d.reaches=true↔(∀ k,k<d.reaches.length->cA d 191 k ()=.inr ())/\0<d.reaches.length:=by
  unfold iW;refine Iff.trans (m1 (r:=aj (eJ d.reaches) d.reaches.length 0 ()) (a:=false) (b:=decide ((d.reaches.length:Int) > 0))) ?_;simp only[Bool.false_eq_true,and_false,or_false,decide_eq_true_eq];rw[eh];refine and_congr ⟨fun h k hk=>?_,fun h k hk=>?_⟩ (by omega)
  ·unfold cA;rw[eV,ux];exact(xe _ k (by omega)).1 (h k hk)
  ·have:=h k hk;unfold cA at this;rw[eV,ux]at this;exact(xe _ k (by omega)).2 this
 have hF:lE d=true↔(∀ k,k<d.crops.length->cT d 191 k ()=.inr ())/\(∀ k,k<d.farms.length->cB d 191 k ()=.inr ()):=by
  unfold lE;refine Iff.trans (m1 (r:=aj (gY d) d.crops.length 0 ()) (a:=false) (b:=match aj (gZ d) d.farms.length 0 ()with| .inl _=>false| .inr _=>true)) ?_;simp only[Bool.false_eq_true,and_false,or_false];rw[eh];refine Iff.trans (and_congr_right fun _=>m1) ?_;simp only[Bool.false_eq_true,and_false,or_false,and_true];rw[eh];exact and_congr ⟨fun h k hk=>(yT d k).1 (h k hk),fun h k hk=>(yT d k).2 (h k hk)⟩ ⟨fun h k hk=>(yU d k h1 h3).1 (h k hk),fun h k hk=>(yU d k h1 h3).2 (h k hk)⟩
 unfold jz;have hb:∀ A B q:Bool,(bif A then false else bif B then false else q)=true↔A=false/\B=false/\q=true:=fun A B q=>by cases A <;>cases B <;>simp
 rw[hb];refine Iff.trans (and_congr_right fun _=>and_congr_right fun _=>Iff.trans (m1 (r:=aj (g5 d) d.rights.length 0 ()) (a:=false) (b:=match aj (g6 d) d.duties.length 0 ()with| .inl _=>false| .inr _=>true)) (or_congr_left (and_congr_right fun _=>m1))) ?_;simp only[Bool.false_eq_true,and_false,or_false,and_true];rw[eh,eh];simp only[Bool.or_eq_false_iff,Bool.not_eq_false',hR,hF,aw,Bool.and_eq_true,decide_eq_true_eq,decide_eq_false_iff_not];constructor
 ·rintro⟨⟨⟨a1,a2⟩,a3⟩,⟨⟨b1,b2⟩,b3,b4⟩,b5,b6⟩;refine⟨by omega,by omega,b2,b1,b3,b4,fun k hk=>(uB d k h2 h1 (by omega) (by omega)).1 (b5 k hk),fun k hk=>(yV d k h1 h2).1 (b6 k hk)⟩
 ·rintro⟨a1,a2,a3,b1,b2,b3,b4,b5⟩;refine⟨⟨⟨by omega,by omega⟩,by omega⟩,⟨⟨b1,a3⟩,b2,b3⟩,fun k hk=>(uB d k h2 h1 (by omega) (by omega)).2 (b4 k hk),fun k hk=>(yV d k h1 h2).2 (b5 k hk)⟩
theorem H7 (d:District):bg d=g7 d:=by
 have hs:=uz d;unfold g7;by_cases hl:d.reaches.length<=64/\d.farms.length<=600/\d.crops.length<=32/\d.rights.length<=256/\d.duties.length<=256
 ·have e1:(((((decide ((d.reaches.length:Int) > 64)) ||(decide ((d.farms.length:Int) > 600))) ||(decide ((d.crops.length:Int) > 32))) ||(decide ((d.rights.length:Int) > 256))) ||(decide ((d.duties.length:Int) > 256)))=false:=by
   simp only[Bool.or_eq_false_iff,decide_eq_false_iff_not];omega
  rw[e1];simp only[cond_false];have hv:=BG d hl.1 hl.2.1 hl.2.2.1;cases h:jz d with
  |true=>exact hs.2 ⟨hl,hv.1 h⟩
  |false=>
   have h0:bg d≠0:=fun e=>by
    have:=hv.2 (hs.1 e).2;rw[h]at this;cases this
   unfold bg at h0 |-;simp only[eV]at h0 |-;have e2:(((((decide ((d.reaches.length:Int)<=64))&&(decide ((d.farms.length:Int)<=600)))&&(decide ((d.crops.length:Int)<=32)))&&(decide ((d.rights.length:Int)<=256)))&&(decide ((d.duties.length:Int)<=256)))=true:=by
    simp only[Bool.and_eq_true,decide_eq_true_eq];omega
   rw[e2]at h0 |-;simp only[cond_true]at h0 |-;cases hx:cV d 191 with
   |true=>rw[hx]at h0;simp at h0
   |false=>rfl
 ·have e1:(((((decide ((d.reaches.length:Int) > 64)) ||(decide ((d.farms.length:Int) > 600))) ||(decide ((d.crops.length:Int) > 32))) ||(decide ((d.rights.length:Int) > 256))) ||(decide ((d.duties.length:Int) > 256)))=true:=by
   simp only[Bool.or_eq_true,decide_eq_true_eq];omega
  rw[e1];unfold bg;simp only[eV];have e2:(((((decide ((d.reaches.length:Int)<=64))&&(decide ((d.farms.length:Int)<=600)))&&(decide ((d.crops.length:Int)<=32)))&&(decide ((d.rights.length:Int)<=256)))&&(decide ((d.duties.length:Int)<=256)))=false:=by
   simp only[Bool.and_eq_false_iff,decide_eq_false_iff_not];omega
  rw[e2];rfl
theorem H8 (x:Ratio×Ratio):jT x:=⟨sK _,fun _=>sK _,fun _=>Dh _ _⟩
theorem KQ (x:Reach):kV x:=fun _ _=>H8 _
theorem FH (d:District):kW d:=fun _=>iu _ _ _ fun _ _ _ _ _ _=>KQ _
theorem FI (d:District):kX d:=fun _ _=>FH d
theorem kZ {n:Int}(h0: -4611686018427387904<=n)(h1:n<=4611686018427387904):bW n=(n.natAbs:Int):=by
 unfold bW;by_cases h:n<0
 ·rw[decide_eq_true h];simp only[cond_true,IntKind.wrap,IntKind.bits,IntKind.signed];simp;omega
 ·rw[decide_eq_false h];simp only[cond_false];rw[BE (by omega) (by omega)];omega
def mkR (n d:Int):Ratio×Int:=
 if d=0 then({ n:=0,d:=0},120)else
 if 1073741824<n.natAbs / Nat.gcd n.natAbs d.natAbs\/1073741824<d.natAbs / Nat.gcd n.natAbs d.natAbs then({ n:=0,d:=0},2)else
 ({ n:=if(decide (n<0)) !=(decide (d<0))then -((n.natAbs / Nat.gcd n.natAbs d.natAbs:Nat):Int)else((n.natAbs / Nat.gcd n.natAbs d.natAbs:Nat):Int),d:=((d.natAbs / Nat.gcd n.natAbs d.natAbs:Nat):Int)},0)
theorem KR {n d:Int}(h0: -4611686018427387904<=n)(h1:n<=4611686018427387904)(h2: -4611686018427387904<=d)(h3:d<=4611686018427387904):jr n d=mkR n d:=by
 unfold jr mkR;by_cases hd:d=0
 ·subst hd;rfl
 ·have e:(d==0)=false:=by simpa using hd
  rw[e,cond_false,if_neg hd,kZ h0 h1,kZ h2 h3,Int.toNat_natCast,Int.toNat_natCast,xb (by omega)];have g0:0<Nat.gcd n.natAbs d.natAbs:=Nat.gcd_pos_of_pos_right _ (by omega);have t1:Int.tdiv (n.natAbs:Int) ((Nat.gcd n.natAbs d.natAbs:Nat):Int)=((n.natAbs / Nat.gcd n.natAbs d.natAbs:Nat):Int):=by rw[Int.tdiv_eq_ediv_of_nonneg (by omega)];rfl
  have t2:Int.tdiv (d.natAbs:Int) ((Nat.gcd n.natAbs d.natAbs:Nat):Int)=((d.natAbs / Nat.gcd n.natAbs d.natAbs:Nat):Int):=by rw[Int.tdiv_eq_ediv_of_nonneg (by omega)];rfl
  have l1:n.natAbs / Nat.gcd n.natAbs d.natAbs<=n.natAbs:=Nat.div_le_self _ _;have l2:d.natAbs / Nat.gcd n.natAbs d.natAbs<=d.natAbs:=Nat.div_le_self _ _;rw[t1,t2];generalize n.natAbs / Nat.gcd n.natAbs d.natAbs=x at *;generalize d.natAbs / Nat.gcd n.natAbs d.natAbs=y at *;rw[BE (n:=(x:Int)) (by omega) (by omega),BE (n:=(y:Int)) (by omega) (by omega),a8 (n:=(x:Int)) (by omega) (by omega),a8 (n:=(y:Int)) (by omega) (by omega),a8 (n:=0 - (x:Int)) (by omega) (by omega)];by_cases hb:1073741824<x\/1073741824<y
  ·rw[if_pos hb];have:decide ((if(x:Int) < (y:Int)then(y:Int)else(x:Int)) > 1073741824)=true:=by
    rw[decide_eq_true_eq];split <;>omega
   rw[this,cond_true]
  ·rw[if_neg hb];have:decide ((if(x:Int) < (y:Int)then(y:Int)else(x:Int)) > 1073741824)=false:=by
    rw[decide_eq_false_iff_not];split <;>omega
   rw[this,cond_false];cases(decide (n<0)) !=(decide (d<0)) <;>simp
theorem NW (n d:Int)(h0: -4611686018427387904<=n)(h1:n<=4611686018427387904)(h2: -4611686018427387904<=d)(h3:d<=4611686018427387904):mn n d:=fun hd=>by
 have hd:d≠0:=by simpa using hd
 rw[kZ h0 h1,kZ h2 h3,Int.toNat_natCast,Int.toNat_natCast,xb (by omega)];have g0:0<Nat.gcd n.natAbs d.natAbs:=Nat.gcd_pos_of_pos_right _ (by omega);exact⟨⟨by omega,by omega⟩,by omega,by omega⟩
def rv (a:Ratio):Rat:=(a.n:Rat) / (a.d:Rat)
theorem BH {a b:Nat}(hb:0<b):a / Nat.gcd a b*Nat.gcd a b=a/\b / Nat.gcd a b*Nat.gcd a b=b/\Nat.gcd (a / Nat.gcd a b) (b / Nat.gcd a b)=1:=
 ⟨Nat.div_mul_cancel (Nat.gcd_dvd_left _ _),Nat.div_mul_cancel (Nat.gcd_dvd_right _ _),Nat.gcd_div_gcd_div_gcd_of_pos_right hb⟩
theorem lL {d:Int}(h:d≠0):(d:Rat)≠0:=fun e=>h (by exact_mod_cast e)
theorem NX {n d:Int}(hd:1<=d){r:Ratio}(h:mkR n d=(r,0)):RatioOk r/\rv r*(d:Rat)=(n:Rat):=by
 unfold mkR at h;rw[if_neg (by omega)]at h;split at h
 ·simp at h
 ·rename_i hb;obtain⟨rfl,-⟩:=Prod.mk.inj h;obtain⟨g1,g2,g3⟩:=BH (a:=n.natAbs) (b:=d.natAbs) (by omega);have hdn:¬d<0:=by omega
  have hx:(if(decide (n<0)) !=(decide (d<0))then -((n.natAbs / Nat.gcd n.natAbs d.natAbs:Nat):Int)else((n.natAbs / Nat.gcd n.natAbs d.natAbs:Nat):Int))*((Nat.gcd n.natAbs d.natAbs:Nat):Int)=n:=by
   rw[decide_eq_false hdn];by_cases hn:n<0
   ·rw[decide_eq_true hn,if_pos (by rfl),Int.neg_mul,<-Int.natCast_mul,g1];omega
   ·rw[decide_eq_false hn,if_neg (by simp),<-Int.natCast_mul,g1];omega
  have hxa:(if(decide (n<0)) !=(decide (d<0))then -((n.natAbs / Nat.gcd n.natAbs d.natAbs:Nat):Int)else((n.natAbs / Nat.gcd n.natAbs d.natAbs:Nat):Int)).natAbs=n.natAbs / Nat.gcd n.natAbs d.natAbs:=by
   split
   ·rw[Int.natAbs_neg,Int.natAbs_natCast]
   ·rw[Int.natAbs_natCast]
  have hyd:((d.natAbs / Nat.gcd n.natAbs d.natAbs:Nat):Int)*((Nat.gcd n.natAbs d.natAbs:Nat):Int)=d:=by rw[<-Int.natCast_mul,g2];omega
  generalize hX:(if(decide (n<0)) !=(decide (d<0))then -((n.natAbs / Nat.gcd n.natAbs d.natAbs:Nat):Int)else((n.natAbs / Nat.gcd n.natAbs d.natAbs:Nat):Int))=X at *;have hy0:1<=d.natAbs / Nat.gcd n.natAbs d.natAbs:=by
   rcases Nat.eq_zero_or_pos (d.natAbs / Nat.gcd n.natAbs d.natAbs)with e|e
   ·rw[e]at g2;omega
   ·exact e
  refine⟨⟨by simp only;omega,by simp only;omega,by simp only;omega,by simp only;omega,by simp only;rw[hxa,Int.toNat_natCast];exact g3⟩,?_⟩;unfold rv;simp only;have e1:(d:Rat)=(((d.natAbs / Nat.gcd n.natAbs d.natAbs:Nat):Int):Rat)*(((Nat.gcd n.natAbs d.natAbs:Nat):Int):Rat):=by exact_mod_cast hyd.symm
  have e2:(n:Rat)=(X:Rat)*(((Nat.gcd n.natAbs d.natAbs:Nat):Int):Rat):=by exact_mod_cast hx.symm
  rw[e1,e2];have h1:(((d.natAbs / Nat.gcd n.natAbs d.natAbs:Nat):Int):Rat)≠0:=lL (by omega);generalize (((d.natAbs / Nat.gcd n.natAbs d.natAbs:Nat):Int):Rat)=y at *;rw[<-Rat.mul_assoc,Rat.div_mul_cancel h1]
theorem uV {a b:Int}(h0: -1073741824<=a)(h1:a<=1073741824)(h2:1<=b)(h3:b<=1073741824): -1152921504606846976<=a*b/\a*b<=1152921504606846976:=by
 have:(a*b).natAbs<=1073741824*1073741824:=by rw[Int.natAbs_mul];exact Nat.mul_le_mul (by omega) (by omega)
 omega
theorem mul1 {a b:Int}(h0:1<=a)(h1:1<=b):1<=a*b:=Int.mul_pos (by omega) (by omega)
theorem Ep {a b:Ratio}(ha:RatioOk a)(hb:RatioOk b):d_ a b=(a.n*b.d+b.n*a.d,a.d*b.d):=by
 have m1:=uV ha.n0 ha.n hb.d1 hb.d;have m2:=uV hb.n0 hb.n ha.d1 ha.d;have h1:=ha.d1;have h2:=ha.d;have m3:=uV (a:=a.d) (by omega) h2 hb.d1 hb.d;unfold d_;rw[a8 (n:=a.n*b.d) (by omega) (by omega),a8 (n:=b.n*a.d) (by omega) (by omega),a8 (n:=a.d*b.d) (by omega) (by omega),a8 (by omega) (by omega)]
theorem Di (a b:Ratio):dY a b=if az a=0/\az b=0 then mkR (a.n*b.d+b.n*a.d) (a.d*b.d)else({ n:=0,d:=0},120):=by
 unfold dY dX;by_cases h:az a=0/\az b=0
 ·rw[if_pos h,h.1,h.2,Ep ((dR a).1 h.1) ((dR b).1 h.2)];have ha:=(dR a).1 h.1;have hb:=(dR b).1 h.2;have m1:=uV ha.n0 ha.n hb.d1 hb.d;have m2:=uV hb.n0 hb.n ha.d1 ha.d;have h1:=ha.d1;have h2:=ha.d;have m3:=uV (a:=a.d) (by omega) h2 hb.d1 hb.d;simp only[bne_self_eq_false,Bool.or_false,cond_false];rw[KR (by omega) (by omega) (by omega) (by omega)]
 ·rw[if_neg h];have:((az a !=0) ||(az b !=0))=true:=by
   rcases xd a with e|e <;>rcases xd b with f|f <;>simp_all
  rw[this];rfl
theorem Sj (a b:Ratio):nC a b:=fun h=>by
 simp only[Bool.or_eq_false_iff,bne_eq_false_iff_eq]at h;have ha:=(dR a).1 h.1;have hb:=(dR b).1 h.2;rw[Ep ha hb];have m1:=uV ha.n0 ha.n hb.d1 hb.d;have m2:=uV hb.n0 hb.n ha.d1 ha.d;have h1:=ha.d1;have h2:=ha.d;have m3:=uV (a:=a.d) (by omega) h2 hb.d1 hb.d;exact NW _ _ (by simp only;omega) (by simp only;omega) (by simp only;omega) (by simp only;omega)
theorem H9 {a b:Ratio}(ha:RatioOk a)(hb:RatioOk b):(rv a+rv b)*((a.d*b.d:Int):Rat)=((a.n*b.d+b.n*a.d:Int):Rat):=by
 have h1:=ha.d1;have h2:=hb.d1;have d1:(a.d:Rat)≠0:=lL (by omega);have d2:(b.d:Rat)≠0:=lL (by omega);unfold rv;have e1:((a.d*b.d:Int):Rat)=(a.d:Rat)*(b.d:Rat):=by exact_mod_cast rfl
 have e2:((a.n*b.d+b.n*a.d:Int):Rat)=(a.n:Rat)*(b.d:Rat)+(b.n:Rat)*(a.d:Rat):=by exact_mod_cast rfl
 rw[e1,e2,Rat.add_mul,<-Rat.mul_assoc,Rat.div_mul_cancel d1,Rat.mul_comm (a.d:Rat),<-Rat.mul_assoc,Rat.div_mul_cancel d2]
theorem H_ {a b r:Ratio}(h:dY a b=(r,0)):RatioOk a/\RatioOk b/\RatioOk r/\rv r=rv a+rv b:=by
 rw[Di]at h;split at h
 ·rename_i hc;have ha:=(dR a).1 hc.1;have hb:=(dR b).1 hc.2;have hd:=mul1 ha.d1 hb.d1;obtain⟨h1,h2⟩:=NX hd h;refine⟨ha,hb,h1,?_⟩;rw[<-H9 ha hb]at h2;have hne:((a.d*b.d:Int):Rat)≠0:=lL (by omega);have:=congrArg (· / ((a.d*b.d:Int):Rat)) h2;simp only[Rat.mul_div_cancel hne]at this;exact this
 ·simp at h
theorem oo {kk vk:Tag}(l:List (kk.T×vk.T))(x z:kk.T)(y:vk.T):dL kk vk (fH kk vk l x y) z=if z=x then y else dL kk vk l z:=by
 unfold dL fH;rw[tY];by_cases h:z=x <;>simp[h]
theorem FJ {kk vk:Tag}(l:List (kk.T×vk.T))(x z:kk.T)(y:vk.T):pd kk vk (fH kk vk l x y) z=(decide (z=x) ||pd kk vk l z):=by
 unfold pd fH;rw[tY];by_cases h:z=x <;>simp[h]
theorem cJ {α:Type}(l:List α)(d:α){k:Nat}(h:k<l.length):l.take (k+1)=l.take k++[l.getD k d]:=by
 rw[List.take_succ_eq_append_getElem h,jh l d h]
theorem sL {ρ σ:Type}{step:Nat->σ->ρ⊕σ}(J:Nat->σ->Prop)(n i:Nat)(s:σ)(h0:J i s)(h:∀ j s,i<=j->j<i+n->J j s->∃ s',step j s=.inr s'/\J (j+1) s'):∃ r,aj step n i s=.inr r/\J (i+n) r:=by
 induction n generalizing i s with
 |zero=>exact⟨s,rfl,h0⟩
 |succ n ih=>
  obtain⟨s',e,hJ⟩:=h i s (Nat.le_refl _) (by omega) h0;obtain⟨r,e2,h2⟩:=ih (i+1) s' hJ fun j s h1 h2=>h j s (by omega) (by omega);refine⟨r,?_,by rw[show i+(n+1)=i+1+n by omega];exact h2⟩;simp only[aj,e];exact e2
theorem xf {ρ σ:Type}{step:Nat->σ->ρ⊕σ}(S:Nat->σ)(n:Nat)(C:Nat->Prop)(hc:∀ k,k<n->(∀ j,j<k->C j)->(C k->step k (S k)=.inr (S (k+1)))/\(¬C k->∃ r,step k (S k)=.inl r)):
  ∀ m i,i+m=n->(∀ j,j<i->C j)->((∀ k,i<=k->k<n->C k)->aj step m i (S i)=.inr (S n))/\(¬ (∀ k,i<=k->k<n->C k)->∃ r,aj step m i (S i)=.inl r)
 |0,i,h,hi=>⟨fun _=>by rw[show i=n by omega];rfl,fun hn=>absurd (fun k h1 h2=>by omega) hn⟩
 |m+1,i,h,hi=>by
  obtain⟨h1,h2⟩:=hc i (by omega) hi;by_cases hC:C i
  ·have hi':∀ j,j<i+1->C j:=fun j hj=>by
    rcases Nat.lt_or_ge j i with h'|h'
    ·exact hi j h'
    ·rw[show j=i by omega];exact hC
   obtain⟨g1,g2⟩:=xf S n C hc m (i+1) (by omega) hi';simp only[aj,h1 hC];refine⟨fun ha=>g1 fun k hk1 hk2=>ha k (by omega) hk2,fun hn=>g2 fun ha=>hn fun k hk1 hk2=>?_⟩;rcases Nat.lt_or_ge i k with h'|h'
   ·exact ha k h' hk2
   ·rw[show k=i by omega];exact hC
  ·obtain⟨r,hr⟩:=h2 hC;simp only[aj,hr];exact⟨fun ha=>absurd (ha i (Nat.le_refl _) (by omega)) hC,fun _=>⟨r,rfl⟩⟩
theorem nJ (n lo hi:Int):ap n lo hi=true↔lo<=n/\n<=hi:=by
 unfold ap;simp
theorem pK (n:Int){k:Nat}(h:k<=4096):ap n 0 (i64.wrap ((k:Int) - 1))=true↔0<=n/\n< (k:Int):=by
 rw[nJ,a8 (by omega) (by omega)];omega
def sM:List Part->Rat
 | [] =>0
 |x::r=>rv x.share+sM r
theorem Ia (a b:List Part):sM (a++b)=sM a+sM b:=by
 induction a with
 |nil=>simp[sM,Rat.zero_add]
 |cons x r ih=>simp only[List.cons_append,sM,ih,Rat.add_assoc]
structure PartOk (d:District)(x:Part):Prop where
 f0:0<=x.farm
 f1:x.farm< (d.farms.length:Int)
 share:RatioOk x.share
 pos:0<x.share.n
structure PartsOk (d:District)(l:List Part):Prop where
 len1:1<=l.length
 len:l.length<=16
 part:∀ x∈l,PartOk d x
 apart:(l.map fun x=>x.farm).Nodup
 sum:sM l=1
theorem Ib {d:District}{l:List Part}(hf:d.farms.length<=600)(h:eT d l=true):PartsOk d l:=by
 unfold eT at h;cases hr:aj (dO d l) l.length 0 (0,1,[])with
 |inl x=>rw[hr]at h;cases h
 |inr s=>
  rw[hr]at h;have hJ:=wJ (fun k s=>rv { n:=s.1,d:=s.2.1} =sM (l.take k)/\(∀ x∈l.take k,PartOk d x)/\((l.take k).map fun x=>x.farm).Nodup/\∀ f:Int,dL .int .bool s.2.2 f=decide (f∈(l.take k).map fun x=>x.farm)) l.length 0 (0,1,([]:List (Int×Bool))) ⟨by show((0:Int):Rat) / ((1:Int):Rat)=0;first|rfl|grind,by simp,by simp,fun f=>by simp[dL,eM,dA]⟩ (fun j s _ hj ⟨j1,j2,j3,j4⟩ s' hs=>by
   rw[Nat.zero_add]at hj;unfold dO at hs;cases hc:(((!(ap ((l.getD j (default:Part)).farm) 0 (i64.wrap ((d.farms.length:Int) - 1)))) ||(dL .int .bool s.2.2 ((l.getD j (default:Part)).farm))) ||(decide ((l.getD j (default:Part)).share.n<=0)))with
   |true=>rw[hc]at hs;cases hs
   |false=>
    rw[hc]at hs;simp only[Bool.or_eq_false_iff,Bool.not_eq_false',decide_eq_false_iff_not]at hc;obtain⟨⟨c1,c2⟩,c3⟩:=hc;rw[pK _ (by omega)]at c1;cases he:((dY ({ n:=s.1,d:=s.2.1}:Ratio) ((l.getD j (default:Part)).share)).2 !=0)with
    |true=>rw[he]at hs;cases hs
    |false=>
     rw[he]at hs;simp only[cond_false,Sum.inr.injEq]at hs;subst hs;have he:(dY ({ n:=s.1,d:=s.2.1}:Ratio) ((l.getD j (default:Part)).share)).2=0:=by simpa using he
     obtain⟨a1,a2,a3,a4⟩:=H_ (r:=(dY ({ n:=s.1,d:=s.2.1}:Ratio) ((l.getD j (default:Part)).share)).1) (by rw[<-he]);rw[cJ l default hj];rw[j4,decide_eq_false_iff_not]at c2;refine⟨?_,fun x hx=>?_,?_,fun f=>?_⟩
     ·rw[Ia,<-j1];simp only[sM,Rat.add_zero];exact a4
     ·rcases List.mem_append.1 hx with hx|hx
      ·exact j2 x hx
      ·simp only[List.mem_singleton]at hx;subst hx;exact⟨c1.1,c1.2,a2,by omega⟩
     ·rw[List.map_append,List.nodup_append];refine⟨j3,by simp,fun a ha b hb=>?_⟩;simp only[List.map_cons,List.map_nil,List.mem_singleton]at hb;subst hb;rintro rfl;exact c2 ha
     ·rw[oo,List.map_append];by_cases hf:f=(l.getD j (default:Part)).farm
      ·subst hf;simp
      ·rw[if_neg hf,j4,decide_eq_decide];simp only[List.mem_append,List.map_cons,List.map_nil,List.mem_singleton];exact⟨.inl,fun h=>h.elim id fun e=>absurd e hf⟩) s hr
  rw[Nat.zero_add,List.take_length]at hJ;obtain⟨j1,j2,j3,_⟩:=hJ;simp only[Bool.and_eq_true,beq_iff_eq]at h;obtain⟨h1,h2,h3⟩:=h;rw[nJ]at h1;refine⟨by omega,by omega,j2,j3,?_⟩;rw[<-j1,h2,h3];show((1:Int):Rat) / ((1:Int):Rat)=1;first|rfl|grind
theorem KS (d:District)(l:List Part):iv d l:=fun _=>iu _ _ _ fun j s _ _ _ _=>Sj _ _
theorem NY (d:District)(m:List (Int×Deed))(x:Deed):jg d m x:=fun _ hf hr=>⟨fun h=>by
  rw[nJ,a8 (by omega) (by unfold bb at *;omega)]at h;omega,fun _ _ _=>KS _ _⟩
theorem gB (d:District)(l:List Deed):dl d l:=fun _ _ _ hl=>iu _ _ _ fun j s _ hj=>⟨fun h=>by
  rw[decide_eq_true_eq]at h;rw[a8 (by omega) (by unfold bb at *;omega)];omega,fun _=>NY _ _ _⟩
def nK (l:List Deed):List (Int×Deed):=l.foldl (fun m x=>fH .int .deed m x.no x) []
theorem qm (l:List Deed)(x:Deed):nK (l++[x])=fH .int .deed (nK l) x.no x:=by
 unfold nK;rw[List.foldl_append];rfl
def Asc (l:List Deed):Prop:=l.Pairwise fun x y=>x.no<y.no
def Chk (d:District):List Deed->List Deed->Prop
 |_,[] =>True
 |b,x::r=>(∀ y∈b,y.no<x.no)/\bU d (nK b) x=true/\Chk d (b++[x]) r
theorem Chk.asc {d:District}:∀ {r b:List Deed},Asc b->Chk d b r->Asc (b++r)
 | [],b,h,_=>by simpa using h
 |x::r,b,h,⟨h1,_,h3⟩ =>by
  have:Asc (b++[x]):=List.pairwise_append.2 ⟨h,List.pairwise_singleton _ _,fun y hy z hz=>by simp at hz;subst hz;exact h1 y hy⟩;simpa using Chk.asc this h3
theorem k9 (l:List Deed):ay l=false↔∀ x∈l,x.parts.length<=16:=by
 unfold ay cG;have key:∀ l:List Deed,(match fJ (ρ:=Unit) (fun(x:Deed) (_:Unit) =>bif cN x then .inl ()else .inr ()) l ()with| .inl _=>False| .inr _=>True)↔∀ x∈l,x.parts.length<=16:=fun l=>by
  induction l with
  |nil=>simp[fJ]
  |cons x r ih=>
   simp only[fJ];unfold cN at ih |-;by_cases hx:(x.parts.length:Int) > 16
   ·rw[decide_eq_true hx];simp only[cond_true,false_iff];intro h;have:=h x (by simp);omega
   ·rw[decide_eq_false hx];simp only[cond_false,ih,List.mem_cons,forall_eq_or_imp];constructor
    ·exact fun h=>⟨by omega,h⟩
    ·exact fun h=>h.2
 have hI:∀ (n i:Nat),i+n=l.length->((∃ j,i<=j/\j<l.length/\cN (l.getD j default)=true)/\(∃ q:Nat,aj (bH l) n i ()=.inl (q:Int)))\/((∀ j,i<=j->j<l.length->cN (l.getD j default)=false)/\aj (bH l) n i ()=.inr ()):=fun n=>by
  induction n with
  |zero=>exact fun i h=>.inr ⟨fun j h1 h2=>by omega,rfl⟩
  |succ n ih=>
   intro i h;simp only[aj,bH];cases hc:cN (l.getD i default)with
   |true=>exact .inl ⟨⟨i,Nat.le_refl _,by omega,hc⟩,i,rfl⟩
   |false=>
    simp only[cond_false];rcases ih (i+1) (by omega)with⟨⟨j,h1,h2,h3⟩,h4⟩ | ⟨h1,h2⟩
    ·exact .inl ⟨⟨j,by omega,h2,h3⟩,h4⟩
    ·refine .inr ⟨fun j h3 h4=>?_,h2⟩;rcases Nat.lt_or_ge i j with h5|h5
     ·exact h1 j h5 h4
     ·rw[show j=i by omega];exact hc
 rcases hI l.length 0 (by omega)with⟨⟨j,_,h2,h3⟩,q,h4⟩ | ⟨h1,h2⟩
 ·rw[h4];simp only[decide_eq_false_iff_not];refine⟨fun h=>by omega,fun h=>?_⟩;have:=h (l.getD j default) (by rw[jh l _ h2];exact List.getElem_mem _);unfold cN at h3;rw[decide_eq_true_eq]at h3;omega
 ·rw[h2];simp only;refine⟨fun _ x hx=>?_,fun _=>by decide⟩;obtain⟨j,hj,rfl⟩:=List.mem_iff_getElem.1 hx;have:=h1 j (Nat.zero_le _) hj;rw[jh l _ hj]at this;unfold cN at this;rw[decide_eq_false_iff_not]at this;omega
theorem FK (d:District)(l:List Deed)(hl:l.length<=4096):(∀ k,k<l.length->((0<k->(l.getD (k - 1) default).no< (l.getD k default).no)/\bU d (nK (l.take k)) (l.getD k default)=true))↔Chk d [] l:=by
 have key:∀ (r b:List Deed),l=b++r->Asc b->((∀ k,b.length<=k->k<l.length->((0<k->(l.getD (k - 1) default).no< (l.getD k default).no)/\bU d (nK (l.take k)) (l.getD k default)=true))↔Chk d b r):=fun r=>by
  induction r with
  |nil=>exact fun b h _=>⟨fun _=>trivial,fun _ k h1 h2=>by rw[h]at h2;simp at h2;omega⟩
  |cons x r ih=>
   intro b h hA;have hk:b.length<l.length:=by rw[h];simp
   have g:l.getD b.length default=x:=by rw[h];simp[List.getD_eq_getElem?_getD]
   have t:l.take b.length=b:=by rw[h];simp
   have hlast:(∀ y∈b,y.no<x.no)↔(0<b.length->(l.getD (b.length - 1) default).no<x.no):=by
    rcases List.eq_nil_or_concat b with rfl| ⟨b',y,rfl⟩
    ·simp
    ·rw[List.concat_eq_append]at h hA hk g t |-;have g2:l.getD ((b'++[y]).length - 1) default=y:=by rw[h];simp[List.getD_eq_getElem?_getD]
     rw[g2];refine⟨fun hh _=>hh y (by simp),fun hh z hz=>?_⟩;have hy:=hh (by simp);rcases List.mem_append.1 hz with hz|hz
     ·exact Int.lt_trans ((List.pairwise_append.1 hA).2.2 z hz y (by simp)) hy
     ·simp at hz;subst hz;exact hy
   constructor
   ·intro hh;have h1:=hh b.length (Nat.le_refl _) hk;rw[g,t]at h1;have h2:=hlast.2 h1.1;have hA':Asc (b++[x]):=List.pairwise_append.2 ⟨hA,List.pairwise_singleton _ _,fun y hy z hz=>by simp at hz;subst hz;exact h2 y hy⟩;exact⟨h2,h1.2,(ih (b++[x]) (by rw[h];simp) hA').1 fun k hk1 hk2=>hh k (by simp at hk1;omega) hk2⟩
   ·rintro⟨h2,h3,h4⟩ k hk1 hk2;have hA':Asc (b++[x]):=List.pairwise_append.2 ⟨hA,List.pairwise_singleton _ _,fun y hy z hz=>by simp at hz;subst hz;exact h2 y hy⟩;rcases Nat.eq_or_lt_of_le hk1 with rfl|hk1
    ·rw[g,t];exact⟨hlast.1 h2,h3⟩
    ·exact(ih (b++[x]) (by rw[h];simp) hA').2 h4 k (by simp;omega) hk2
 have:=key l [] rfl List.Pairwise.nil;simpa using this
theorem t6 (d:District)(l:List Deed):ai d l=0↔bg d=0/\l.length<=512/\(∀ x∈l,x.parts.length<=16)/\Chk d [] l:=by
 unfold ai;cases h1:(bg d !=0)with
 |true=>
  have:bg d≠0:=by simpa using h1
  simp[this]
 |false=>
  have h1:bg d=0:=by simpa using h1
  simp only[cond_false,h1,true_and];by_cases hl:l.length<=512
  ·have:decide ((l.length:Int) > 512)=false:=by rw[decide_eq_false_iff_not];omega
   rw[this,Bool.false_or];cases h2:ay l with
   |true=>
    simp only[cond_true,hl,true_and];refine⟨(fun h=>by cases h),fun h=>?_⟩;have:=(k9 l).2 h.1;rw[h2]at this;cases this
   |false=>
    have h3:=(k9 l).1 h2;simp only[cond_false,hl,true_and,and_iff_right h3];rw[<-FK d l (by omega)];obtain⟨g1,g2⟩:=xf (step:=cW d l) (fun k=>nK (l.take k)) l.length (fun k=>(0<k->(l.getD (k - 1) default).no< (l.getD k default).no)/\bU d (nK (l.take k)) (l.getD k default)=true) (fun k hk _=>by
     unfold cW;have e0:(decide ((k:Int) > 0)&&decide ((l.getD k (default:Deed)).no<=(l.getD (Int.toNat (i64.wrap ((k:Int) - 1))) (default:Deed)).no))= !decide (0<k->(l.getD (k - 1) default).no< (l.getD k default).no):=by
      by_cases h0:0<k
      ·rw[tZ (by omega) h0,Int.toNat_natCast];by_cases h4:(l.getD (k - 1) default).no< (l.getD k default).no
       ·rw[decide_eq_true (by omega:(k:Int) > 0),Bool.true_and,decide_eq_false (by omega),decide_eq_true (fun _=>h4)];rfl
       ·rw[decide_eq_true (by omega:(k:Int) > 0),Bool.true_and,decide_eq_true (by omega),decide_eq_false (fun h=>h4 (h h0))];rfl
      ·have:k=0:=by omega
       subst this;simp
     rw[e0];constructor
     ·rintro⟨a,b⟩;rw[decide_eq_true a,b];simp only[Bool.not_true,Bool.or_false,cond_false];rw[cJ l default hk,qm]
     ·intro hn;refine⟨(),?_⟩;have:(!decide (0<k->(l.getD (k - 1) default).no< (l.getD k default).no) || !bU d (nK (l.take k)) (l.getD k default))=true:=by
       cases hd:decide (0<k->(l.getD (k - 1) default).no< (l.getD k default).no)with
       |false=>rfl
       |true=>
        cases hf:bU d (nK (l.take k)) (l.getD k default)with
        |false=>rfl
        |true=>exact absurd ⟨of_decide_eq_true hd,hf⟩ hn
      rw[this];rfl) l.length 0 (by omega) (fun j hj=>by omega)
    by_cases hall:∀ k,0<=k->k<l.length->(0<k->(l.getD (k - 1) default).no< (l.getD k default).no)/\bU d (nK (l.take k)) (l.getD k default)=true
    ·have e:=g1 hall;rw[List.take_zero]at e;have e':aj (cW d l) l.length 0 []=.inr (nK (l.take l.length)):=e;rw[e'];exact⟨fun _ k hk=>hall k (Nat.zero_le _) hk,fun _=>rfl⟩
    ·obtain⟨r,e⟩:=g2 hall;rw[List.take_zero]at e;have e':aj (cW d l) l.length 0 []=.inl r:=e;rw[e'];exact⟨(fun h=>by cases h),fun h=>absurd (fun k _ hk=>h k hk) hall⟩
  ·have:decide ((l.length:Int) > 512)=true:=by rw[decide_eq_true_eq];omega
   rw[this,Bool.true_or];simp[hl]
theorem xg {ρ σ:Type}{step:Nat->σ->ρ⊕σ}{p:Nat->σ->Prop}(m:σ->Nat)(J:σ->Prop)(Q:ρ->Prop)(h:∀ k s,J s->p k s/\((∃ r,step k s=.inl r/\Q r)\/∃ s',step k s=.inr s'/\m s'<m s/\J s')):∀ (n i:Nat) (s:σ),J s->m s<n->okI step p n i s/\∃ r,aj step n i s=.inl r/\Q r
 |0,_,_,_,hm=>absurd hm (Nat.not_lt_zero _)
 |n+1,i,s,hJ,hm=>by
  obtain⟨h1,h2⟩:=h i s hJ;rcases h2 with⟨r,e,hq⟩ | ⟨s',e,hlt,hJ'⟩
  ·refine⟨⟨h1,fun s'' e'=>?_⟩,r,?_,hq⟩
   ·rw[e]at e';cases e'
   ·simp only[aj,e]
  ·obtain⟨q1,q2⟩:=xg m J Q h n (i+1) s' hJ' (by omega);refine⟨⟨h1,fun s'' e'=>?_⟩,?_⟩
   ·rw[e]at e';cases e';exact q1
   ·simp only[aj,e];exact q2
theorem uC {ρ σ:Type}{x:ρ⊕σ}{Q:ρ->Prop}(h:∃ r,x=.inl r/\Q r):∀ z,x≠ .inr z:=fun z e=>by
 obtain⟨r,e1,_⟩:=h;rw[e1]at e;cases e
theorem Er (a b:Deed):decide (cw a b<0)=decide (a.at_<b.at_):=by
 unfold cw;rw[lI];by_cases h:a.at_<b.at_
 ·simp[h]
 ·by_cases h2:a.at_ > b.at_ <;>simp[h,h2]
theorem j5 {α:Type}(A:List α)(x d:α)(T:List α){i:Nat}(h:i=A.length):(A++x::T).getD i d=x:=by
 subst h;simp[List.getD_eq_getElem?_getD]
theorem oR {α:Type}(A:List α)(x y:α)(T:List α){i:Nat}(h:i=A.length):(A++x::T).set i y=A++y::T:=by
 subst h;simp
def SameF (l l':List Deed):Prop:= ∀ t:Int,l.filter (fun x=>x.at_==t)=l'.filter fun x=>x.at_==t
theorem SameF.refl (l:List Deed):SameF l l:=fun _=>rfl
theorem SameF.trans {a b c:List Deed}(h1:SameF a b)(h2:SameF b c):SameF a c:=fun t=>(h1 t).trans (h2 t)
theorem SameF.app {a b c d:List Deed}(h1:SameF a b)(h2:SameF c d):SameF (a++c) (b++d):=fun t=>by rw[List.filter_append,List.filter_append,h1 t,h2 t]
theorem SameF.swap {a b:List Deed}(h:∀ x∈a,∀ y∈b,x.at_≠y.at_):SameF (a++b) (b++a):=fun t=>by
 rw[List.filter_append,List.filter_append];by_cases ha:a.filter (fun x=>x.at_==t)=[]
 ·rw[ha];simp
 ·have hb:b.filter (fun x=>x.at_==t)=[]:=by
   rw[List.filter_eq_nil_iff];intro y hy hyt;obtain⟨x,hx⟩:=List.exists_mem_of_ne_nil _ ha;rw[List.mem_filter]at hx;have e1:x.at_=t:=by simpa using hx.2
   have e2:y.at_=t:=by simpa using hyt
   exact h x hx.1 y hy (by rw[e1,e2])
  rw[hb];simp
def Srt (l:List Deed):Prop:=l.Pairwise fun x y=>x.at_<=y.at_
theorem FL (A S R:List Deed)(x:Deed)(l_:List Deed)(hl:(A++S++x::R).length<2 ^ 62)(hfuel:(A++S++x::R).length=l_.length):
  okI (aQ A.length l_) (aY A.length l_) (l_.length+1) 0 (A++S++x::R,((A.length+S.length:Nat):Int))/\
  ∃ r,aj (aQ A.length l_) (l_.length+1) 0 (A++S++x::R,((A.length+S.length:Nat):Int))=.inl r/\
   ∃ S1 S2,S=S1++S2/\r=A++S1++x::(S2++R)/\(∀ y∈S2,x.at_<y.at_)/\∀ y,S1.getLast? =some y->y.at_<=x.at_:=by
 refine xg (fun s:List Deed×Int=>(s.2 - (A.length:Int)).toNat) (fun s:List Deed×Int=>∃ S1 S2,S=S1++S2/\s=(A++S1++x::(S2++R),((A.length+S1.length:Nat):Int))/\∀ y∈S2,x.at_<y.at_) (fun r=>∃ S1 S2,S=S1++S2/\r=A++S1++x::(S2++R)/\(∀ y∈S2,x.at_<y.at_)/\∀ y,S1.getLast? =some y->y.at_<=x.at_) ?_ _ _ _ ⟨S,[],by simp,by simp,by simp⟩ (by simp only[List.length_append,List.length_cons]at hl hfuel;omega);rintro k s ⟨S1,S2,hS,rfl,hlt⟩;simp only[List.length_append,List.length_cons]at hl hfuel;have hlen:S.length=S1.length+S2.length:=by rw[hS,List.length_append]
 rcases List.eq_nil_or_concat S1 with rfl| ⟨S1',y,rfl⟩
 ·unfold aY aQ;have e:decide (((A.length+([]:List Deed).length:Nat):Int) > A.length)=false:=by simp
  refine⟨⟨fun h=>?_,fun h=>?_,fun h=>?_⟩,.inl ⟨_,?_,[],S2,hS,rfl,hlt,fun y hy=>by simp at hy⟩⟩
  ·rw[e]at h;cases h
  ·rw[e]at h;cases h
  ·rw[e]at h;cases h
  ·simp only[e,Bool.false_and,cond_false]
 ·simp only[List.concat_eq_append,List.length_append,List.length_cons,List.length_nil]at hlen |-;have w:i64.wrap (((A.length+(S1'.length+(0+1)):Nat):Int) - 1)=((A.length+S1'.length:Nat):Int):=by rw[a8 (by omega) (by omega)];omega
  have e:decide (((A.length+(S1'.length+(0+1)):Nat):Int) > A.length)=true:=by rw[decide_eq_true_eq];omega
  have g1:(A++(S1'++[y])++x::(S2++R)).getD (A.length+(S1'.length+(0+1))) default=x:=j5 _ _ _ _ (by simp);have hr:A++(S1'++[y])++x::(S2++R)=(A++S1')++y::x::(S2++R):=by simp
  have g2:(A++(S1'++[y])++x::(S2++R)).getD (A.length+S1'.length) default=y:=by rw[hr];exact j5 _ _ _ _ (by simp)
  have hL:(A++(S1'++[y])++x::(S2++R)).length=A.length+(S1'.length+1)+(S2.length+R.length+1):=by simp;omega
  unfold aY aQ;simp only[w,Int.toNat_natCast,g1,g2,Er,e,Bool.true_and,List.length_set,hL];refine⟨⟨fun _=>by omega,fun _=>by omega,fun _=>by omega⟩,?_⟩;by_cases h:x.at_<y.at_
  ·right;rw[decide_eq_true h,cond_true];refine⟨_,rfl,by simp only;omega,S1',y::S2,by rw[hS];simp,?_,fun z hz=>?_⟩
   ·rw[oR (A++(S1'++[y])) x y (S2++R) (by simp)];have:A++(S1'++[y])++y::(S2++R)=(A++S1')++y::y::(S2++R):=by simp
    rw[this,oR (A++S1') y x _ (by simp)];simp
   ·rcases List.mem_cons.1 hz with rfl|hz
    ·exact h
    ·exact hlt z hz
  ·left;rw[decide_eq_false h,cond_false];exact⟨_,rfl,S1'++[y],S2,hS.trans (by simp),by simp,hlt,fun z hz=>by simp at hz;subst hz;omega⟩
theorem Ic {l:List Deed}{c:Int}(h:Srt l)(hl:∀ y,l.getLast? =some y->y.at_<=c):∀ z∈l,z.at_<=c:=fun z hz=>by
 rcases List.eq_nil_or_concat l with rfl| ⟨l',y,rfl⟩
 ·cases hz
 ·rw[List.concat_eq_append]at h hz hl;have hy:=hl y (by simp);unfold Srt at h;rw[List.pairwise_append]at h;rcases List.mem_append.1 hz with hz|hz
  ·exact Int.le_trans (h.2.2 z hz y (by simp)) hy
  ·simp at hz;subst hz;exact hy
theorem KT {S1 S2:List Deed}{x:Deed}(h:Srt (S1++S2))(h2:∀ y∈S2,x.at_<y.at_)(h1:∀ z∈S1,z.at_<=x.at_):Srt (S1++x::S2):=by
 unfold Srt at h |-;rw[List.pairwise_append]at h |-;refine⟨h.1,List.pairwise_cons.2 ⟨fun y hy=>Int.le_of_lt (h2 y hy),h.2.1⟩,fun z hz y hy=>?_⟩;rcases List.mem_cons.1 hy with rfl|hy
 ·exact h1 z hz
 ·exact h.2.2 z hz y hy
theorem yW (A M R:List Deed)(hl:(A++M++R).length<2 ^ 62):
  aJ A.length ((A.length+M.length:Nat):Int) (A++M++R)/\
  ∃ M',aq A.length ((A.length+M.length:Nat):Int) (A++M++R)=A++M'++R/\SameF M M'/\Srt M':=by
 have hlen:(A++M++R).length=A.length+M.length+R.length:=by simp[Nat.add_assoc]
 have w0:i64.wrap ((A.length:Int)+1)=((A.length+1:Nat):Int):=by rw[a8 (by omega) (by omega)];omega
 have key:okI (aI A.length ((A.length+M.length:Nat):Int) (A++M++R)) (aM A.length ((A.length+M.length:Nat):Int) (A++M++R)) ((A++M++R).length+1) 0 (A++M++R,((A.length+1:Nat):Int))/\
   ∃ r,aj (aI A.length ((A.length+M.length:Nat):Int) (A++M++R)) ((A++M++R).length+1) 0 (A++M++R,((A.length+1:Nat):Int))=.inl r/\∃ M',r=A++M'++R/\SameF M M'/\Srt M':=by
  refine xg (fun s:List Deed×Int=>(((A.length+M.length:Nat):Int) - s.2).toNat) (fun s:List Deed×Int=>(M=[]/\s=(A++M++R,((A.length+1:Nat):Int)))\/∃ S T,s=(A++S++(T++R),((A.length+S.length:Nat):Int))/\SameF M (S++T)/\Srt S/\M.length=S.length+T.length) (fun r=>∃ M',r=A++M'++R/\SameF M M'/\Srt M') ?_ _ _ _ ?_ (by simp only;omega)
  ·rintro k s (⟨rfl,rfl⟩ | ⟨S,T,rfl,hF,hS,hMl⟩)
   ·unfold aM aI;have e:decide (((A.length+1:Nat):Int) < ((A.length+([]:List Deed).length:Nat):Int))=false:=by rw[decide_eq_false_iff_not];simp only[List.length_nil];omega
    refine⟨fun h=>?_,.inl ⟨_,?_,[],rfl,SameF.refl _,List.Pairwise.nil⟩⟩
    ·rw[e]at h;cases h
    ·simp only[e,cond_false]
   ·cases T with
    |nil=>
     unfold aM aI;have e:decide (((A.length+S.length:Nat):Int) < ((A.length+M.length:Nat):Int))=false:=by rw[decide_eq_false_iff_not];simp only[List.length_nil]at hMl;omega
     refine⟨fun h=>?_,.inl ⟨A++S++([]++R),?_,S,by simp,by simpa using hF,hS⟩⟩
     ·rw[e]at h;cases h
     ·simp only[e,cond_false]
    |cons x T=>
     simp only[List.length_cons]at hMl;have e:decide (((A.length+S.length:Nat):Int) < ((A.length+M.length:Nat):Int))=true:=by rw[decide_eq_true_eq];omega
     have hl2:(A++S++x::(T++R)).length=(A++M++R).length:=by simp;omega
     obtain⟨i1,r,i2,S1,S2,rfl,rfl,i3,i4⟩:=FL A S (T++R) x (A++M++R) (by omega) hl2;have hS1:Srt S1:=(List.pairwise_append.1 hS).1;have w:i64.wrap (((A.length+(S1++S2).length:Nat):Int)+1)=((A.length+(S1++x::S2).length:Nat):Int):=by
      rw[a8 (by omega) (by simp only[List.length_append]at *;omega)];simp only[List.length_append,List.length_cons];omega
     unfold aM aI;refine⟨fun _=>⟨i1,uC (Q:=fun _=>True) ⟨_,i2,trivial⟩⟩,.inr ⟨_,?_,?_,.inr ⟨S1++x::S2,T,rfl,?_,KT hS i3 (Ic hS1 i4),by simp only[List.length_append,List.length_cons]at *;omega⟩⟩⟩
     ·simp only[e,cond_true,List.cons_append];rw[i2];simp only[w];simp
     ·simp only[List.length_append,List.length_cons]at *;omega
     ·refine hF.trans ?_;have h0:SameF (S2++[x]) ([x]++S2):=SameF.swap fun y hy z hz=>by simp at hz;subst hz;have:=i3 y hy;omega
      have:=((SameF.refl S1).app h0).app (SameF.refl T);simpa using this
  ·cases M with
   |nil=>exact .inl ⟨rfl,rfl⟩
   |cons x T=>exact .inr ⟨[x],T,by simp,by simpa using SameF.refl _,List.pairwise_singleton _ _,by simp;omega⟩
 obtain⟨k1,r,k2,M',rfl,k3,k4⟩:=key;unfold aJ aq;rw[w0];refine⟨⟨k1,uC (Q:=fun _=>True) ⟨_,k2,trivial⟩⟩,M',?_,k3,k4⟩;rw[k2]
theorem Ag (A X B Y C:List Deed)(hxy:X.length=Y.length)(hl:(A++X++B++Y++C).length<2 ^ 62):
  aL A.length ((A.length+X.length+B.length:Nat):Int) X.length (A++X++B++Y++C)/\
  aO A.length ((A.length+X.length+B.length:Nat):Int) X.length (A++X++B++Y++C)=A++Y++B++X++C:=by
 have hlen:(A++X++B++Y++C).length=A.length+X.length+B.length+Y.length+C.length:=by simp[Nat.add_assoc]
 have step:∀ j s,0<=j->j<0+Int.toNat (X.length:Int)->(∃ X1 X2 Y1 Y2,X=X1++X2/\Y=Y1++Y2/\X1.length=j/\Y1.length=j/\s=A++Y1++X2++B++X1++Y2++C)->
   bI A.length ((A.length+X.length+B.length:Nat):Int) X.length j s/\∀ s',bq A.length ((A.length+X.length+B.length:Nat):Int) X.length j s=.inr s'->∃ X1 X2 Y1 Y2,X=X1++X2/\Y=Y1++Y2/\X1.length=j+1/\Y1.length=j+1/\s'=A++Y1++X2++B++X1++Y2++C:=by
  rintro j s _ hj ⟨X1,X2,Y1,Y2,hX,hY,h1,h2,rfl⟩;rw[Int.toNat_natCast,Nat.zero_add]at hj;have l1:X.length=X1.length+X2.length:=by rw[hX,List.length_append]
  have l2:Y.length=Y1.length+Y2.length:=by rw[hY,List.length_append]
  match X2,Y2,l1,l2,hX,hY with
  | [],_,l1,_,_,_=>simp at l1;omega
  |_::_,[],_,l2,_,_=>simp at l2;omega
  |x::X2,y::Y2,l1,l2,hX,hY=>
   simp only[List.length_cons]at l1 l2;have w1:i64.wrap ((A.length:Int)+(j:Int))=((A.length+j:Nat):Int):=by rw[a8 (by omega) (by omega)];omega
   have w2:i64.wrap (((A.length+X.length+B.length:Nat):Int)+(j:Int))=((A.length+X.length+B.length+j:Nat):Int):=by rw[a8 (by omega) (by omega)];omega
   have r1:A++Y1++x::X2++B++X1++y::Y2++C=(A++Y1)++x::(X2++B++X1++y::(Y2++C)):=by simp
   have r2:A++Y1++x::X2++B++X1++y::Y2++C=(A++Y1++x::X2++B++X1)++y::(Y2++C):=by simp
   have g1:(A++Y1++x::X2++B++X1++y::Y2++C).getD (A.length+j) default=x:=by rw[r1];exact j5 _ _ _ _ (by simp;omega)
   have g2:(A++Y1++x::X2++B++X1++y::Y2++C).getD (A.length+X.length+B.length+j) default=y:=by rw[r2];exact j5 _ _ _ _ (by simp;omega)
   have hL:(A++Y1++x::X2++B++X1++y::Y2++C).length=A.length+X.length+B.length+Y.length+C.length:=by simp;omega
   unfold bI bq;simp only[w1,w2,Int.toNat_natCast,g1,g2,List.length_set,hL];refine⟨by omega,fun s' e=>?_⟩;cases e;refine⟨X1++[x],X2,Y1++[y],Y2,by rw[hX];simp,by rw[hY];simp,by simp[h1],by simp[h2],?_⟩;rw[r1,oR (A++Y1) x y _ (by simp;omega)];have r3:A++Y1++y::(X2++B++X1++y::(Y2++C))=(A++Y1++y::X2++B++X1)++y::(Y2++C):=by simp
   rw[r3,oR _ y x _ (by simp;omega)];simp
 have h0:∃ X1 X2 Y1 Y2,X=X1++X2/\Y=Y1++Y2/\X1.length=0/\Y1.length=0/\A++X++B++Y++C=A++Y1++X2++B++X1++Y2++C:=⟨[],X,[],Y,rfl,rfl,rfl,rfl,by simp⟩;have hJ:=wJ (fun k s=>∃ X1 X2 Y1 Y2,X=X1++X2/\Y=Y1++Y2/\X1.length=k/\Y1.length=k/\s=A++Y1++X2++B++X1++Y2++C) (Int.toNat (X.length:Int)) 0 _ h0 (fun j s a b c=>(step j s a b c).2);unfold aL aO;refine⟨⟨by omega,zW (fun k s=>∃ X1 X2 Y1 Y2,X=X1++X2/\Y=Y1++Y2/\X1.length=k/\Y1.length=k/\s=A++Y1++X2++B++X1++Y2++C) _ 0 _ h0 step⟩,?_⟩;cases hr:aj (bq A.length ((A.length+X.length+B.length:Nat):Int) X.length) (Int.toNat (X.length:Int)) 0 (A++X++B++Y++C)with
 |inl x=>exact x.elim
 |inr r=>
  obtain⟨X1,X2,Y1,Y2,rfl,rfl,h1,h2,rfl⟩:=hJ r hr;rw[Int.toNat_natCast,Nat.zero_add]at h1 h2;have e1:X2=[]:=List.eq_nil_of_length_eq_zero (by rw[List.length_append]at h1;omega);have e2:Y2=[]:=List.eq_nil_of_length_eq_zero (by rw[hxy,List.length_append]at h2;omega);subst e1;subst e2;simp
theorem FM (A U V C:List Deed)(hU:U≠[])(hV:V≠[])(hl:(A++U++V++C).length<2 ^ 62):
  a_ A.length ((A.length+U.length:Nat):Int) ((A.length+U.length+V.length:Nat):Int) (A++U++V++C)/\
  am A.length ((A.length+U.length:Nat):Int) ((A.length+U.length+V.length:Nat):Int) (A++U++V++C)=A++V++U++C:=by
 have hlen:(A++U++V++C).length=A.length+U.length+V.length+C.length:=by simp[Nat.add_assoc]
 have w1:i64.wrap (((A.length+U.length:Nat):Int) - (A.length:Int))=(U.length:Int):=by rw[a8 (by omega) (by omega)];omega
 have w2:i64.wrap (((A.length+U.length+V.length:Nat):Int) - ((A.length+U.length:Nat):Int))=(V.length:Int):=by rw[a8 (by omega) (by omega)];omega
 have hm:∀ {M:Nat},M=A.length+U.length->∀ {F:List Deed},F=A++V++U++C->okI (bJ A.length (M:Int) ((A.length+U.length+V.length:Nat):Int)) (b7 A.length (M:Int) ((A.length+U.length+V.length:Nat):Int)) (Int.toNat (((A.length+U.length+V.length:Nat):Int) - (A.length:Int))+1) 0 (A++U++V++C,(U.length:Int),(V.length:Int))/\
   ∃ r,aj (bJ A.length (M:Int) ((A.length+U.length+V.length:Nat):Int)) (Int.toNat (((A.length+U.length+V.length:Nat):Int) - (A.length:Int))+1) 0 (A++U++V++C,(U.length:Int),(V.length:Int))=.inl r/\∃ A1 U1 V1 C1,r=((U1.length:Int),A1++U1++V1++C1)/\U1.length=V1.length/\A1.length+U1.length=M/\A1++V1++U1++C1=F:=by
  intro M hM F hF;refine xg (fun s:List Deed×Int×Int=>(s.2.1+s.2.2).toNat) (fun s:List Deed×Int×Int=>∃ A1 U1 V1 C1,s=(A1++U1++V1++C1,(U1.length:Int),(V1.length:Int))/\U1≠[]/\V1≠[]/\A1.length+U1.length=M/\A1++V1++U1++C1=F) _ ?_ _ _ _ ⟨A,U,V,C,rfl,hU,hV,hM.symm,hF.symm⟩ (by simp only;omega);rintro k s ⟨A1,U1,V1,C1,rfl,hU1,hV1,hM1,hF1⟩;have hFl:A1.length+V1.length+U1.length+C1.length<2 ^ 62:=by
   have:=congrArg List.length (hF1.trans hF);simp only[List.length_append]at this hl;omega
  have pU:0<U1.length:=List.length_pos_iff.2 hU1;have pV:0<V1.length:=List.length_pos_iff.2 hV1;unfold b7 bJ;have v1:i64.wrap ((M:Int) - (U1.length:Int))=(A1.length:Int):=by rw[a8 (by omega) (by omega)];omega
  by_cases he:U1.length=V1.length
  ·have b1:(((U1.length:Int)) !=((V1.length:Int)))=false:=by simp[he]
   refine⟨fun h=>?_,.inl ⟨_,?_,A1,U1,V1,C1,rfl,he,hM1,hF1⟩⟩
   ·simp only[b1]at h;cases h
   ·simp only[b1,cond_false]
  ·have b1:(((U1.length:Int)) !=((V1.length:Int)))=true:=by simp only[bne_iff_ne,ne_eq];omega
   by_cases hgt:V1.length<U1.length
   ·have b2:decide (((U1.length:Int)) > ((V1.length:Int)))=true:=by rw[decide_eq_true_eq];omega
    have v2:i64.wrap ((U1.length:Int) - (V1.length:Int))=((U1.drop V1.length).length:Int):=by rw[a8 (by omega) (by omega),List.length_drop];omega
    have hsp:U1=U1.take V1.length++U1.drop V1.length:=(List.take_append_drop _ _).symm;have ht:(U1.take V1.length).length=V1.length:=by rw[List.length_take];omega
    have hd:(U1.drop V1.length).length=U1.length - V1.length:=List.length_drop;have hsw:=Ag A1 (U1.take V1.length) (U1.drop V1.length) V1 C1 ht (by simp only[List.length_append,ht,hd];omega);have e1:A1++U1.take V1.length++U1.drop V1.length++V1++C1=A1++U1++V1++C1:=by rw[List.append_assoc A1,List.take_append_drop]
    have e2:((A1.length+(U1.take V1.length).length+(U1.drop V1.length).length:Nat):Int)=(M:Int):=by rw[ht,hd];omega
    rw[e1,e2,ht]at hsw;simp only[b1,b2,v1,v2,cond_true];refine⟨fun _=>⟨fun _=>hsw.1,fun h=>by cases h⟩,.inr ⟨_,rfl,by simp only[hd];omega,A1++V1,U1.drop V1.length,U1.take V1.length,C1,?_,fun h=>?_,fun h=>?_,?_,?_⟩⟩
    ·rw[hsw.2,ht]
    ·rw[h]at hd;simp at hd;omega
    ·rw[h]at ht;simp at ht;omega
    ·rw[List.length_append,hd];omega
    ·rw[<-hF1,List.append_assoc (A1++V1),List.take_append_drop]
   ·have b2:decide (((U1.length:Int)) > ((V1.length:Int)))=false:=by rw[decide_eq_false_iff_not];omega
    have v2:i64.wrap ((V1.length:Int) - (U1.length:Int))=((V1.take (V1.length - U1.length)).length:Int):=by rw[a8 (by omega) (by omega),List.length_take];omega
    have v3:i64.wrap (i64.wrap ((M:Int)+(V1.length:Int)) - (U1.length:Int))=((A1.length+U1.length+(V1.take (V1.length - U1.length)).length:Nat):Int):=by
     rw[a8 (n:=(M:Int)+(V1.length:Int)) (by omega) (by omega),a8 (by omega) (by omega),List.length_take];omega
    have ht:(V1.take (V1.length - U1.length)).length=V1.length - U1.length:=by rw[List.length_take];omega
    have hd:(V1.drop (V1.length - U1.length)).length=U1.length:=by rw[List.length_drop];omega
    have hsw:=Ag A1 U1 (V1.take (V1.length - U1.length)) (V1.drop (V1.length - U1.length)) C1 hd.symm (by simp only[List.length_append,ht,hd];omega);have e1:A1++U1++V1.take (V1.length - U1.length)++V1.drop (V1.length - U1.length)++C1=A1++U1++V1++C1:=by rw[List.append_assoc (A1++U1),List.take_append_drop]
    rw[e1]at hsw;simp only[b1,b2,v1,v2,v3,cond_true,cond_false];refine⟨fun _=>⟨(fun h=>by cases h),fun _=>hsw.1⟩,.inr ⟨_,rfl,by simp only[ht];omega,A1,V1.drop (V1.length - U1.length),V1.take (V1.length - U1.length),U1++C1,?_,fun h=>?_,fun h=>?_,by rw[hd];exact hM1,?_⟩⟩
    ·rw[hsw.2,hd];simp
    ·rw[h]at hd;simp at hd;omega
    ·rw[h]at ht;simp at ht;omega
    ·rw[<-hF1,List.append_assoc A1,List.take_append_drop];simp
 obtain⟨k1,r,k2,A1,U1,V1,C1,rfl,q1,q2,q3⟩:=hm rfl rfl;have hFl:A1.length+V1.length+U1.length+C1.length<2 ^ 62:=by
  have:=congrArg List.length q3;simp only[List.length_append]at this hl;omega
 have v1:i64.wrap (((A.length+U.length:Nat):Int) - (U1.length:Int))=(A1.length:Int):=by rw[a8 (by omega) (by omega)];omega
 have hsw:=Ag A1 U1 [] V1 C1 q1 (by simp only[List.length_append,List.length_nil];omega);have e2:((A1.length+U1.length+([]:List Deed).length:Nat):Int)=((A.length+U.length:Nat):Int):=by rw[List.length_nil];omega
 rw[e2]at hsw;simp only[List.append_nil]at hsw;unfold a_ am;rw[w1,w2];refine⟨⟨k1,uC (Q:=fun _=>True) ⟨_,k2,trivial⟩,fun x hx=>?_⟩,?_⟩
 ·rw[k2]at hx;cases hx;simp only[v1];exact hsw.1
 ·rw[k2];simp only[v1];rw[hsw.2,q3]
theorem half {i j:Int}(h0:0<=i)(h1:i<=j)(h2:j<=2305843009213693952):i64.wrap (im .u64 (u64.wrap (i64.wrap (i+j))) 1)=(i+j) / 2:=by
 have e0:i64.wrap (i+j)=i+j:=a8 (by omega) (by omega);have e:u64.wrap (i+j)=i+j:=by
  unfold IntKind.wrap;simp[IntKind.bits,IntKind.signed];omega
 have e2:im .u64 (i+j) 1=(i+j) / 2:=by
  show Int.fdiv (i+j) ((2:Int) ^ min (Int.toNat 1) u64.bits)=_;have:(2:Int) ^ min (Int.toNat 1) u64.bits=2:=by decide
  rw[this,Int.fdiv_eq_ediv_of_nonneg _ (by omega)]
 rw[e0,e,e2,a8 (by omega) (by omega)]
theorem BI {i j:Nat}(h1:i<=j)(h2:j<2 ^ 61):i64.wrap (im .u64 (u64.wrap (i64.wrap ((i:Int)+(j:Int)))) 1)=(((i+j) / 2:Nat):Int):=by
 rw[half (by omega) (by omega) (by omega)];omega
theorem Ah {step:Nat->Int×Int->Int⊕(Int×Int)}{p:Nat->Int×Int->Prop}(P:Nat->Bool)(lo hi:Nat)(hlh:lo<=hi)(hmono:∀ x y,lo<=x->x<=y->y<hi->P y=true->P x=true)
  (hstep:∀ k (i j:Nat),lo<=i->i<j->j<=hi->p k ((i:Int),(j:Int))/\step k ((i:Int),(j:Int))=bif P ((i+j) / 2)then .inr ((((i+j) / 2+1:Nat):Int),(j:Int))else .inr ((i:Int),(((i+j) / 2:Nat):Int)))
  (hstop:∀ k (i:Nat),p k ((i:Int),(i:Int))/\step k ((i:Int),(i:Int))=.inl (i:Int)) (n k:Nat) (hn:hi - lo<n):
  okI step p n k ((lo:Int),(hi:Int))/\∃ r,aj step n k ((lo:Int),(hi:Int))=.inl r/\∃ q:Nat,r=(q:Int)/\lo<=q/\q<=hi/\(∀ x,lo<=x->x<q->P x=true)/\∀ x,q<=x->x<hi->P x=false:=by
 refine xg (fun s:Int×Int=>(s.2 - s.1).toNat) (fun s:Int×Int=>∃ i j:Nat,s=((i:Int),(j:Int))/\lo<=i/\i<=j/\j<=hi/\(∀ x,lo<=x->x<i->P x=true)/\∀ x,j<=x->x<hi->P x=false) _ ?_ n k _ ⟨lo,hi,rfl,Nat.le_refl _,hlh,Nat.le_refl _,fun x h1 h2=>by omega,fun x h1 h2=>by omega⟩ (by simp only;omega);rintro k s ⟨i,j,rfl,h1,h2,h3,h4,h5⟩;by_cases h:i<j
 ·obtain⟨q1,q2⟩:=hstep k i j h1 h h3;refine⟨q1,.inr ?_⟩;have hm1:i<=(i+j) / 2:=by omega
  have hm2:(i+j) / 2<j:=by omega
  cases hP:P ((i+j) / 2)with
  |true=>
   rw[hP]at q2;refine⟨_,q2,by simp only;omega,(i+j) / 2+1,j,rfl,by omega,by omega,h3,fun x hx1 hx2=>?_,h5⟩;exact hmono x _ hx1 (by omega) (by omega) hP
  |false=>
   rw[hP]at q2;refine⟨_,q2,by simp only;omega,i,(i+j) / 2,rfl,h1,hm1,by omega,h4,fun x hx1 hx2=>?_⟩;cases hx:P x with
   |false=>rfl
   |true=>rw[hmono _ x (by omega) hx1 hx2 hx]at hP;cases hP
 ·have e:i=j:=by omega
  subst e;obtain⟨q1,q2⟩:=hstop k i;exact⟨q1,.inl ⟨_,q2,i,rfl,h1,h3,h4,h5⟩⟩
theorem Id (A V C:List Deed)(x:Deed)(l_:List Deed)(hl:(A++x::V++C).length<2 ^ 62)(hfuel:(A++x::V++C).length=l_.length):
  okI (oO l_ ((A.length+1+V.length:Nat):Int)) (od l_ ((A.length+1+V.length:Nat):Int)) (l_.length+1) 0 (A++x::V++C,(A.length:Int))/\
  ∃ r,aj (oO l_ ((A.length+1+V.length:Nat):Int)) (l_.length+1) 0 (A++x::V++C,(A.length:Int))=.inl r/\r=A++V++x::C:=by
 have hlen:(A++x::V++C).length=A.length+V.length+C.length+1:=by simp;omega
 have w0:i64.wrap (((A.length+1+V.length:Nat):Int) - 1)=((A.length+V.length:Nat):Int):=by rw[a8 (by omega) (by omega)];omega
 refine xg (fun s:List Deed×Int=>(((A.length+V.length:Nat):Int) - s.2).toNat) (fun s:List Deed×Int=>∃ V1 V2,V=V1++V2/\s=(A++V1++x::(V2++C),((A.length+V1.length:Nat):Int))) (fun r=>r=A++V++x::C) ?_ _ _ _ ⟨[],V,rfl,by simp⟩ (by simp only;omega);rintro k s ⟨V1,V2,hV,rfl⟩;have hVl:V.length=V1.length+V2.length:=by rw[hV,List.length_append]
 unfold od oO;rw[w0];cases V2 with
 |nil=>
  have e:decide (((A.length+V1.length:Nat):Int) < ((A.length+V.length:Nat):Int))=false:=by rw[decide_eq_false_iff_not,hVl,List.length_nil];omega
  refine⟨fun h=>?_,.inl ⟨A++V1++x::([]++C),?_,by rw[hV];simp⟩⟩
  ·simp only[e]at h;cases h
  ·simp only[e,cond_false]
 |cons y V2=>
  simp only[List.length_cons]at hVl;have e:decide (((A.length+V1.length:Nat):Int) < ((A.length+V.length:Nat):Int))=true:=by rw[decide_eq_true_eq];omega
  have w1:i64.wrap (((A.length+V1.length:Nat):Int)+1)=((A.length+V1.length+1:Nat):Int):=by rw[a8 (by omega) (by omega)];omega
  have g1:(A++V1++x::(y::V2++C)).getD (A.length+V1.length) default=x:=j5 _ _ _ _ (by simp);have r1:A++V1++x::(y::V2++C)=(A++V1++[x])++y::(V2++C):=by simp
  have g2:(A++V1++x::(y::V2++C)).getD (A.length+V1.length+1) default=y:=by rw[r1];exact j5 _ _ _ _ (by simp;omega)
  have hL:(A++V1++x::(y::V2++C)).length=A.length+V.length+C.length+1:=by simp;omega
  simp only[e,w1,Int.toNat_natCast,g1,g2,List.length_set,hL,cond_true];refine⟨fun _=>by omega,.inr ⟨_,rfl,by simp only;omega,V1++[y],V2,by rw[hV];simp,?_⟩⟩;rw[oR (A++V1) x y _ (by simp)];have r2:A++V1++y::(y::V2++C)=(A++V1++[y])++y::(V2++C):=by simp
  rw[r2,oR (A++V1++[y]) y x _ (by simp;omega)];simp[Nat.add_assoc]
theorem Dj (A U C:List Deed)(x:Deed)(l_:List Deed)(hl:(A++U++x::C).length<2 ^ 62)(hfuel:(A++U++x::C).length=l_.length):
  okI (oP l_ (A.length:Int)) (oe l_ (A.length:Int)) (l_.length+1) 0 (A++U++x::C,((A.length+U.length:Nat):Int))/\
  ∃ r,aj (oP l_ (A.length:Int)) (l_.length+1) 0 (A++U++x::C,((A.length+U.length:Nat):Int))=.inl r/\r=A++x::(U++C):=by
 have hlen:(A++U++x::C).length=A.length+U.length+C.length+1:=by simp;omega
 refine xg (fun s:List Deed×Int=>(s.2 - (A.length:Int)).toNat) (fun s:List Deed×Int=>∃ W1 W2,U=W1++W2/\s=(A++W1++x::(W2++C),((A.length+W1.length:Nat):Int))) (fun r=>r=A++x::(U++C)) ?_ _ _ _ ⟨U,[],by simp,by simp⟩ (by simp only;omega);rintro k s ⟨W1,W2,hU,rfl⟩;have hUl:U.length=W1.length+W2.length:=by rw[hU,List.length_append]
 unfold oe oP;rcases List.eq_nil_or_concat W1 with rfl| ⟨W1,y,rfl⟩
 ·have e:decide (((A.length+([]:List Deed).length:Nat):Int) > (A.length:Int))=false:=by simp
  refine⟨fun h=>?_,.inl ⟨A++[]++x::(W2++C),?_,by rw[hU];simp⟩⟩
  ·simp only[e]at h;cases h
  ·simp only[e,cond_false]
 ·simp only[List.concat_eq_append,List.length_append,List.length_cons,List.length_nil]at hUl hU |-;have e:decide (((A.length+(W1.length+(0+1)):Nat):Int) > (A.length:Int))=true:=by rw[decide_eq_true_eq];omega
  have w1:i64.wrap (((A.length+(W1.length+(0+1)):Nat):Int) - 1)=((A.length+W1.length:Nat):Int):=by rw[a8 (by omega) (by omega)];omega
  have g1:(A++(W1++[y])++x::(W2++C)).getD (A.length+(W1.length+(0+1))) default=x:=j5 _ _ _ _ (by simp);have r1:A++(W1++[y])++x::(W2++C)=(A++W1)++y::x::(W2++C):=by simp
  have g2:(A++(W1++[y])++x::(W2++C)).getD (A.length+W1.length) default=y:=by rw[r1];exact j5 _ _ _ _ (by simp)
  have hL:(A++(W1++[y])++x::(W2++C)).length=A.length+U.length+C.length+1:=by simp;omega
  simp only[e,w1,Int.toNat_natCast,g1,g2,List.length_set,hL,cond_true];refine⟨fun _=>by omega,.inr ⟨_,rfl,by simp only;omega,W1,y::W2,by rw[hU];simp,?_⟩⟩;rw[oR (A++(W1++[y])) x y _ (by simp)];have r2:A++(W1++[y])++y::(W2++C)=(A++W1)++y::y::(W2++C):=by simp
  rw[r2,oR (A++W1) y x _ (by simp)];simp
theorem sN {α:Type}(A V C:List α)(d:α){h:Nat}(h1:A.length<=h)(h2:h<A.length+V.length):(A++V++C).getD h d=V.getD (h - A.length) d:=by
 simp only[List.getD_eq_getElem?_getD];rw[List.append_assoc,List.getElem?_append_right h1,List.getElem?_append_left (by omega)]
theorem ji {α:Type}(l:List α)(d:α){n:Nat}(h:n<l.length):l.getD n d=l[n]:=by
 simp[List.getD_eq_getElem?_getD,List.getElem?_eq_getElem h]
theorem lM {V:List Deed}(h:Srt V){i j:Nat}(h1:i<=j)(h2:j<V.length):(V.getD i default).at_<=(V.getD j default).at_:=by
 rcases Nat.eq_or_lt_of_le h1 with rfl|h1
 ·exact Int.le_refl _
 ·rw[ji V _ (by omega),ji V _ h2];exact List.pairwise_iff_getElem.1 h i j (by omega) h2 h1
theorem sO {V:List Deed}{k:Nat}{y:Deed}(h:y∈V.take k):∃ i,i<k/\i<V.length/\y=V.getD i default:=by
 obtain⟨i,hi,e⟩:=List.mem_iff_getElem.1 h;rw[List.length_take]at hi;refine⟨i,by omega,by omega,?_⟩;rw[ji V _ (by omega),<-e,List.getElem_take]
theorem sP {V:List Deed}{k:Nat}{y:Deed}(h:y∈V.drop k):∃ i,k<=i/\i<V.length/\y=V.getD i default:=by
 obtain⟨i,hi,e⟩:=List.mem_iff_getElem.1 h;rw[List.length_drop]at hi;refine⟨k+i,by omega,by omega,?_⟩;rw[ji V _ (by omega),<-e,List.getElem_drop]
theorem vo {a b:List Deed}(h:Srt (a++b)):Srt a/\Srt b/\∀ x∈a,∀ y∈b,x.at_<=y.at_:=List.pairwise_append.1 h
theorem xh {a b:List Deed}(h1:Srt a)(h2:Srt b)(h3:∀ x∈a,∀ y∈b,x.at_<=y.at_):Srt (a++b):=List.pairwise_append.2 ⟨h1,h2,h3⟩
def LZ (n:Nat)(rec_:Int->Int->Int->List Deed->List Deed)(recp_:Int->Int->Int->List Deed->Prop):Prop:=
 ∀ A U V C:List Deed,U≠[]->V≠[]->U.length+V.length<=n->(A++U++V++C).length<2 ^ 60->Srt U->Srt V->
  recp_ (A.length:Int) ((A.length+U.length:Nat):Int) ((A.length+U.length+V.length:Nat):Int) (A++U++V++C)/\
  ∃ M,rec_ (A.length:Int) ((A.length+U.length:Nat):Int) ((A.length+U.length+V.length:Nat):Int) (A++U++V++C)=A++M++C/\SameF (U++V) M/\Srt M/\M.length=U.length+V.length
theorem Dk (rec_:Int->Int->Int->List Deed->List Deed)(recp_:Int->Int->Int->List Deed->Prop)(A V C:List Deed)(x:Deed)(hl:(A++[x]++V++C).length<2 ^ 60)(hV:Srt V):
  oQ rec_ recp_ (A.length:Int) ((A.length+1:Nat):Int) ((A.length+1+V.length:Nat):Int) (A++[x]++V++C)/\
  ∃ M,Ad rec_ recp_ (A.length:Int) ((A.length+1:Nat):Int) ((A.length+1+V.length:Nat):Int) (A++[x]++V++C)=A++M++C/\SameF ([x]++V) M/\Srt M/\M.length=1+V.length:=by
 have hL:(A++[x]++V++C).length=A.length+V.length+C.length+1:=by simp;omega
 have w:i64.wrap (((A.length+1:Nat):Int) - (A.length:Int))=1:=by rw[a8 (by omega) (by omega)];omega
 have gx:(A++[x]++V++C).getD A.length default=x:=by
  have:A++[x]++V++C=A++x::(V++C):=by simp
  rw[this];exact j5 _ _ _ _ rfl
 have gV:∀ h,A.length+1<=h->h<A.length+1+V.length->(A++[x]++V++C).getD h default=V.getD (h - (A.length+1)) default:=fun h h1 h2=>by
  have:=sN (A++[x]) V C default (h:=h) (by simp;omega) (by simp;omega);simpa using this
 have s:=Ah (step:=mq (A.length:Int) (A++[x]++V++C)) (p:=mB (A.length:Int) (A++[x]++V++C)) (fun h=>decide ((V.getD (h - (A.length+1)) default).at_<x.at_)) (A.length+1) (A.length+1+V.length) (by omega)
  (fun i j h1 h2 h3 h4=>by
   have:=lM hV (i:=i - (A.length+1)) (j:=j - (A.length+1)) (by omega) (by omega);simp only[decide_eq_true_eq]at h4 |-;omega)
  (fun k i j h1 h2 h3=>by
   have e:decide ((i:Int) < (j:Int))=true:=by rw[decide_eq_true_eq];omega
   unfold mB mq;simp only[BI (i:=i) (j:=j) (by omega) (by omega),e,cond_true,Int.toNat_natCast,gx,gV ((i+j) / 2) (by omega) (by omega),Er,hL];have w2:i64.wrap ((((i+j) / 2:Nat):Int)+1)=(((i+j) / 2+1:Nat):Int):=by rw[a8 (by omega) (by omega)];omega
   rw[w2];exact⟨fun _=>by omega,rfl⟩)
  (fun k i=>by
   have e:decide ((i:Int) < (i:Int))=false:=by simp
   unfold mB mq;simp only[e,cond_false];exact⟨fun h=>by simp at h,trivial⟩) ((A++[x]++V++C).length+1) 0 (by omega)
 obtain⟨s1,r,s2,q,rfl,q1,q2,q3,q4⟩:=s;have ht:(V.take (q - (A.length+1))).length=q - (A.length+1):=by rw[List.length_take];omega
 have hVs:V.take (q - (A.length+1))++V.drop (q - (A.length+1))=V:=List.take_append_drop _ _;have hd1:∀ y∈V.take (q - (A.length+1)),y.at_<x.at_:=fun y hy=>by
  obtain⟨i,i1,i2,rfl⟩:=sO hy;have:=q3 (A.length+1+i) (by omega) (by omega);simpa[show A.length+1+i - (A.length+1)=i by omega]using this
 have hd2:∀ y∈V.drop (q - (A.length+1)),x.at_<=y.at_:=fun y hy=>by
  obtain⟨i,i1,i2,rfl⟩:=sP hy;have:=q4 (A.length+1+i) (by omega) (by omega);simpa[show A.length+1+i - (A.length+1)=i by omega]using this
 generalize hV1:V.take (q - (A.length+1))=V1 at *;generalize hV2:V.drop (q - (A.length+1))=V2 at *;subst hVs;have eq:A++[x]++(V1++V2)++C=A++x::V1++(V2++C):=by simp
 obtain⟨c1,r,c2,rfl⟩:=Id A V1 (V2++C) x (A++[x]++(V1++V2)++C) (by rw[<-eq];omega) (by rw[eq]);have eqq:((A.length+1+V1.length:Nat):Int)=(q:Int):=by rw[ht];omega
 rw[<-eq,eqq]at c1 c2;unfold oQ Ad;rw[w];refine⟨⟨fun _=>⟨s1,uC (Q:=fun _=>True) ⟨_,s2,trivial⟩,fun z hz=>?_⟩,fun h=>by cases h⟩,V1++[x]++V2,?_,?_,?_,?_⟩
 ·rw[s2]at hz;cases hz;exact⟨c1,uC (Q:=fun _=>True) ⟨_,c2,trivial⟩⟩
 ·rw[s2];simp only[BEq.rfl,cond_true];rw[c2];simp
 ·have h0:SameF ([x]++V1) (V1++[x]):=SameF.swap fun a ha b hb=>by simp at ha;subst ha;have:=hd1 b hb;omega
  simpa using h0.app (SameF.refl V2)
 ·obtain⟨a1,a2,a3⟩:=vo hV;refine xh (xh a1 (List.pairwise_singleton _ _) fun y hy z hz=>?_) a2 fun y hy z hz=>?_
  ·simp at hz;subst hz;exact Int.le_of_lt (hd1 y hy)
  ·rcases List.mem_append.1 hy with hy|hy
   ·exact a3 y hy z hz
   ·simp at hy;subst hy;exact hd2 z hz
 ·simp;omega
theorem BJ (rec_:Int->Int->Int->List Deed->List Deed)(recp_:Int->Int->Int->List Deed->Prop)(A U C:List Deed)(x:Deed)(hU2:2<=U.length)(hl:(A++U++[x]++C).length<2 ^ 60)(hU:Srt U):
  oQ rec_ recp_ (A.length:Int) ((A.length+U.length:Nat):Int) ((A.length+U.length+1:Nat):Int) (A++U++[x]++C)/\
  ∃ M,Ad rec_ recp_ (A.length:Int) ((A.length+U.length:Nat):Int) ((A.length+U.length+1:Nat):Int) (A++U++[x]++C)=A++M++C/\SameF (U++[x]) M/\Srt M/\M.length=U.length+1:=by
 have hL:(A++U++[x]++C).length=A.length+U.length+C.length+1:=by simp;omega
 have w1:i64.wrap (((A.length+U.length:Nat):Int) - (A.length:Int))=(U.length:Int):=by rw[a8 (by omega) (by omega)];omega
 have w:i64.wrap (((A.length+U.length+1:Nat):Int) - ((A.length+U.length:Nat):Int))=1:=by rw[a8 (by omega) (by omega)];omega
 have b1:((U.length:Int) ==1)=false:=by simp;omega
 have gx:(A++U++[x]++C).getD (A.length+U.length) default=x:=by
  have:A++U++[x]++C=(A++U)++x::C:=by simp
  rw[this];exact j5 _ _ _ _ (by simp)
 have gU:∀ h,A.length<=h->h<A.length+U.length->(A++U++[x]++C).getD h default=U.getD (h - A.length) default:=fun h h1 h2=>by
  have:=sN A U ([x]++C) default (h:=h) h1 h2;simpa using this
 have s:=Ah (step:=mr ((A.length+U.length:Nat):Int) (A++U++[x]++C)) (p:=mC ((A.length+U.length:Nat):Int) (A++U++[x]++C)) (fun h=>!decide (x.at_< (U.getD (h - A.length) default).at_)) A.length (A.length+U.length) (by omega)
  (fun i j h1 h2 h3 h4=>by
   have:=lM hU (i:=i - A.length) (j:=j - A.length) (by omega) (by omega);simp only[Bool.not_eq_true',decide_eq_false_iff_not]at h4 |-;omega)
  (fun k i j h1 h2 h3=>by
   have e:decide ((i:Int) < (j:Int))=true:=by rw[decide_eq_true_eq];omega
   unfold mC mr;simp only[BI (i:=i) (j:=j) (by omega) (by omega),e,cond_true,Int.toNat_natCast,gx,gU ((i+j) / 2) (by omega) (by omega),Er,hL];have w2:i64.wrap ((((i+j) / 2:Nat):Int)+1)=(((i+j) / 2+1:Nat):Int):=by rw[a8 (by omega) (by omega)];omega
   rw[w2];exact⟨fun _=>by omega,rfl⟩)
  (fun k i=>by
   have e:decide ((i:Int) < (i:Int))=false:=by simp
   unfold mC mr;simp only[e,cond_false];exact⟨fun h=>by simp at h,trivial⟩) ((A++U++[x]++C).length+1) 0 (by omega)
 obtain⟨s1,r,s2,q,rfl,q1,q2,q3,q4⟩:=s;have ht:(U.take (q - A.length)).length=q - A.length:=by rw[List.length_take];omega
 have hd:(U.drop (q - A.length)).length=U.length - (q - A.length):=List.length_drop;have hUs:U.take (q - A.length)++U.drop (q - A.length)=U:=List.take_append_drop _ _;have hd1:∀ y∈U.take (q - A.length),y.at_<=x.at_:=fun y hy=>by
  obtain⟨i,i1,i2,rfl⟩:=sO hy;have:=q3 (A.length+i) (by omega) (by omega);simpa[show A.length+i - A.length=i by omega]using this
 have hd2:∀ y∈U.drop (q - A.length),x.at_<y.at_:=fun y hy=>by
  obtain⟨i,i1,i2,rfl⟩:=sP hy;have:=q4 (A.length+i) (by omega) (by omega);simpa[show A.length+i - A.length=i by omega]using this
 generalize hV1:U.take (q - A.length)=V1 at *;generalize hV2:U.drop (q - A.length)=V2 at *;subst hUs;have eq:A++(V1++V2)++[x]++C=(A++V1)++V2++x::C:=by simp
 obtain⟨c1,r,c2,rfl⟩:=Dj (A++V1) V2 C x (A++(V1++V2)++[x]++C) (by rw[<-eq];omega) (by rw[eq]);have eqq:(((A++V1).length:Nat):Int)=(q:Int):=by rw[List.length_append,ht];omega
 have eqm:(((A++V1).length+V2.length:Nat):Int)=((A.length+(V1++V2).length:Nat):Int):=by simp only[List.length_append];omega
 rw[<-eq,eqm,eqq]at c1 c2;unfold oQ Ad;rw[w1,w];refine⟨⟨fun h=>(by rw[b1]at h;cases h),fun _=>⟨fun _=>⟨s1,uC (Q:=fun _=>True) ⟨_,s2,trivial⟩,fun z hz=>?_⟩,fun h=>by cases h⟩⟩,V1++[x]++V2,?_,?_,?_,?_⟩
 ·rw[s2]at hz;cases hz;exact⟨c1,uC (Q:=fun _=>True) ⟨_,c2,trivial⟩⟩
 ·rw[s2];simp only[b1,BEq.rfl,cond_true,cond_false];rw[c2];simp
 ·have h0:SameF (V2++[x]) ([x]++V2):=SameF.swap fun a ha b hb=>by simp at hb;subst hb;have:=hd2 a ha;omega
  simpa using (SameF.refl V1).app h0
 ·obtain⟨a1,a2,a3⟩:=vo hU;refine xh (xh a1 (List.pairwise_singleton _ _) fun y hy z hz=>?_) a2 fun y hy z hz=>?_
  ·simp at hz;subst hz;exact hd1 y hy
  ·rcases List.mem_append.1 hy with hy|hy
   ·exact a3 y hy z hz
   ·simp at hy;subst hy;exact Int.le_of_lt (hd2 z hz)
 ·simp;omega
def stI (x:Deed):List Deed->List Deed
 | [] =>[x]
 |y::r=>if x.at_<=y.at_ then x::y::r else y::stI x r
def stS:List Deed->List Deed
 | [] =>[]
 |x::r=>stI x (stS r)
theorem xi (x:Deed):∀ l,SameF (x::l) (stI x l)
 | [] =>SameF.refl _
 |y::r=>by
  unfold stI;by_cases h:x.at_<=y.at_
  ·rw[if_pos h];exact SameF.refl _
  ·rw[if_neg h];have h1:SameF ([x]++[y]++r) ([y]++[x]++r):=(SameF.swap fun a ha b hb=>by simp at ha hb;subst ha;subst hb;omega).app (SameF.refl r);exact h1.trans ((SameF.refl [y]).app (xi x r))
theorem SameF.symm {a b:List Deed}(h:SameF a b):SameF b a:=fun t=>(h t).symm
theorem SameF.mem {a b:List Deed}(h:SameF a b){x:Deed}(hx:x∈a):x∈b:=by
 have:x∈a.filter fun y=>y.at_==x.at_:=by rw[List.mem_filter];exact⟨hx,by simp⟩
 rw[h x.at_]at this;exact(List.mem_filter.1 this).1
theorem SameF.mem_iff {a b:List Deed}(h:SameF a b){x:Deed}:x∈a↔x∈b:=⟨h.mem,h.symm.mem⟩
theorem Es (x:Deed):∀ l,Srt l->Srt (stI x l)
 | [],_=>List.pairwise_singleton _ _
 |y::r,h=>by
  unfold stI;have h':=List.pairwise_cons.1 h;by_cases hc:x.at_<=y.at_
  ·rw[if_pos hc];exact List.pairwise_cons.2 ⟨fun z hz=>by
    rcases List.mem_cons.1 hz with rfl|hz
    ·exact hc
    ·exact Int.le_trans hc (h'.1 z hz),h⟩
  ·rw[if_neg hc];refine List.pairwise_cons.2 ⟨fun z hz=>?_,Es x r h'.2⟩;have:=(xi x r).symm.mem hz;rcases List.mem_cons.1 this with rfl|hz'
   ·omega
   ·exact h'.1 z hz'
theorem pL:∀ l,SameF l (stS l)
 | [] =>SameF.refl _
 |x::r=>((SameF.refl [x]).app (pL r)).trans (xi x _)
theorem Ai:∀ l,Srt (stS l)
 | [] =>List.Pairwise.nil
 |x::r=>Es x _ (Ai r)
theorem uD:∀ {a b:List Deed},Srt a->Srt b->SameF a b->a=b
 | [],[],_,_,_=>rfl
 | [],y::b,_,_,h=>absurd (h.symm.mem (List.mem_cons_self)) (by simp)
 |x::a,[],_,_,h=>absurd (h.mem (List.mem_cons_self)) (by simp)
 |x::a,y::b,ha,hb,h=>by
  have ha':=List.pairwise_cons.1 ha;have hb':=List.pairwise_cons.1 hb;have e:x.at_=y.at_:=by
   have h1:=h.mem (List.mem_cons_self (a:=x) (l:=a));have h2:=h.symm.mem (List.mem_cons_self (a:=y) (l:=b));have q1:y.at_<=x.at_:=by
    rcases List.mem_cons.1 h1 with e|h1
    ·rw[e];exact Int.le_refl _
    ·exact hb'.1 x h1
   have q2:x.at_<=y.at_:=by
    rcases List.mem_cons.1 h2 with e|h2
    ·rw[e];exact Int.le_refl _
    ·exact ha'.1 y h2
   omega
  have h0:=h x.at_;have ey:(y.at_==x.at_)=true:=by simp[e]
  have ex:(x.at_==x.at_)=true:=by simp
  simp only[List.filter_cons,ex,ey,if_true]at h0;obtain⟨exy,htl⟩:=List.cons.inj h0;subst exy;have:SameF a b:=fun t=>by
   have ht:=h t;simp only[List.filter_cons]at ht;by_cases hc:(x.at_==t)=true
   ·rw[if_pos hc,if_pos hc]at ht;exact(List.cons.inj ht).2
   ·rw[if_neg hc,if_neg hc]at ht;exact ht
  rw[uD ha'.2 hb'.2 this]
theorem xj {a b:List Deed}(h:SameF a b)(hb:Srt b):b=stS a:=uD hb (Ai a) (h.symm.trans (pL a))
theorem SameF.filter {a b:List Deed}(p:Deed->Bool)(h:SameF a b):SameF (a.filter p) (b.filter p):=fun t=>by
 rw[List.filter_filter,List.filter_filter,List.filter_congr (q:=fun x=>p x&&(x.at_==t)) fun x _=>Bool.and_comm _ _,<-List.filter_filter,h t,List.filter_filter,List.filter_congr (p:=fun x=>p x&&(x.at_==t)) (q:=fun x=>(x.at_==t)&&p x) fun x _=>Bool.and_comm _ _]
theorem KU {l:List Deed}{x:Deed}:x∈stS l↔x∈l:=(pL l).symm.mem_iff
end Go.Sx
end
