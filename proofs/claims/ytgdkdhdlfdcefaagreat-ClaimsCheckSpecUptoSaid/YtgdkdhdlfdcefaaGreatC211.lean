/- Part of the proof that the law ClaimsCheckSpec returns true and leaves its arguments as they were, for all arguments of bulk at most 1048576 (the Upto form). -/
import Derived.Test.YtgdkdhdlfdcefaaGreatC208
import Derived.Test.YtgdkdhdlfdcefaaGreatC210
import Derived.Test.YtgdkdhdlfdcefaaGreatC209
import Derived.Calls
import Derived.Shelf.SlSortCmp.NoneTotal
import Derived.Shelf.SortM.Plain
import Derived.Shelf.SortM.SortNone
import Derived.Ground.SlgmProg
import Derived.Shelf.SlGeneric
import Derived.Test.YtgdkdhdlfdcefaaGreatProg
import Derived.Ground.SlsfProg
set_option linter.all false
set_option maxHeartbeats 4000000
section
namespace Go.Sx
open Go.Proofs
set_option maxRecDepth 100000
set_option linter.unusedSimpArgs false
def upL (d:District):Nat→Int→List Int
 |0,_=>[]
 |f+1,n=>if 0≤n then n::upL d f (d.reaches.getD n.toNat (cV .reach)).up else []
def Cv (d:District):Nat→Int→Prop
 |0,n=>n<0
 |f+1,n=>0≤n→n<d.reaches.length∧Cv d f (d.reaches.getD n.toNat (cV .reach)).up
def c8 (d:District)(n:Int):List Int:=upL d (n.toNat+1) n
def jw (d:District)(n:Int):Prop:=Cv d (n.toNat+1) n
theorem Jx {d:District}{f:Nat}{n:Int}(h:Cv d f n)(hn:0≤n):∃ f',f=f'+1∧n<d.reaches.length∧Cv d f' (d.reaches.getD n.toNat (cV .reach)).up∧upL d f n=n::upL d f' (d.reaches.getD n.toNat (cV .reach)).up:=by
 cases f with
 |zero=>exact absurd h (by unfold Cv;omega)
 |succ f'=>
  obtain⟨h1,h2⟩:=h hn
  exact⟨f',rfl,h1,h2,by rw[upL,if_pos hn]⟩
theorem AP {d:District}{f:Nat}{n:Int}(hn:¬0≤n):upL d f n=[]:=by
 cases f with
 |zero=>rfl
 |succ f'=>rw[upL,if_neg hn]
def Cw (x:Int):List SV:=[.v (.int .i64 x)]
@[go_sem] def qa:List SV→List Ob→Option HCon:=fun l h=>noH h ((pD .district fun d=>pI fun n=>pE (eK True (.fn 120 [] [.ptr 0 0,.ptr 1 0]) [.cells [.v (.int .i64 n)],.cells (cellsOf .district d)])) l)
theorem AQ:FnOkO Tryz.prog 82 qa:=by
 have hG:ConsOk Tryz.prog (mkG [] []):=aw cg0 cg0
 refine nR mixed am hG (fn:=Tryz.f82) (c:=ae Tryz.f82) (by kernel_rfl) (by kernel_rfl) (by kernel_rfl) (by kernel_rfl) fun l o con h hp=>?_
 unfold qa at h
 obtain⟨rfl,h⟩:=E9 h
 obtain⟨n,l0,rfl,h0⟩:=IA h
 obtain⟨d,l1,rfl,h1⟩:=Ix h0
 obtain⟨rfl,rfl⟩:=rT h1
 refine⟨Nat.le_of_ble_eq_true rfl,L0,ah _,?_⟩
 unfold ae Tryz.f82
 simp only[go_sem,Nat.reduceBEq,Nat.reduceLeDiff,Nat.reduceAdd,Nat.reduceSub,Nat.reduceMul]
 refine⟨(),_,_,[1,0],trivial,rfl,?_⟩
 simp only[go_sem,Nat.reduceBEq,Nat.reduceLeDiff,Nat.reduceAdd,true_and,and_true]
 all_goals (first|done|decide|(repeat' (first|refine And.intro ?_ ?_|rfl|decide)))
open Classical in
theorem TT (d:District)(n0:Int)(hp0:jw d n0):AB Tryz.prog 120 (fun y=>[y,.ptr 1 0,.ptr 2 0]) [.cells [.v (.int .i64 n0)],.cells (cellsOf .district d)] ((c8 d n0).map Cw):=by
 unfold jw at hp0
 unfold c8
 generalize hI:(upL d (n0.toNat+1) n0).map Cw=items
 refine IB (fun r hr hy=>?_) (fun args w=>by kernel_rfl)
 have hG:ConsOk Tryz.prog (yp [] [] (itY items r)):=vM (by simp) (by simp) hy
 refine⟨fun l h=>if l=[.os 0,.ptr 1 0,.ptr 2 0]∧h=[.ab (r 1),.cells [.v (.int .i64 n0)],.cells (cellsOf .district d)]then some { α:=Nat,pre:=True,post:=fun j=>j=0∨j=items.length+1,res:=fun j=>.ret (.tup []) [.ab (r j),.dead,.dead]}else none,
  ?_,_,if_pos ⟨rfl,rfl⟩,trivial,fun j hj=>⟨_,j,_,rfl,hj⟩⟩
 refine nR mixed am hG (fn:=Tryz.f120) (c:=ae Tryz.f120) (by kernel_rfl) (by kernel_rfl) (by kernel_rfl) (by kernel_rfl) fun l o con h hp=>?_
 split at h
 rotate_left
 ·cases h
 rename_i hlo
 obtain⟨rfl,rfl⟩:=hlo
 cases h
 refine⟨Nat.le_of_ble_eq_true rfl,fun id st=>bif Nat.beq id 0 then some { α:=Nat×Bool,pre:=lk 0 st.t=.os 0∧lk 1 st.t=.ptr 1 0∧lk 2 st.t=.ptr 2 0∧st.h=[.ab (r 1),.cells [.v (.int .i64 n0)],.cells (cellsOf .district d)],post:=fun j=>j.1=0∨j.1=items.length+1,ex:=fun j=>bif j.2 then .ret else .normal,out:=fun j=>⟨[],[.ab (r j.1),.dead,.dead]⟩:LCon}else none,?_,?_⟩
 ·unfold ae Tryz.f120
  simp only[al,true_and,and_true]
  refine wZ mixed am hG (by kernel_rfl) fun st lc hC hp=>?_
  simp only[go_sem,Nat.reduceBEq,Option.some.injEq]at hC
  subst hC
  obtain⟨t,h⟩:=st
  dsimp only at hp
  obtain⟨h0,h1,h2,rfl⟩:=hp
  refine⟨Nat×Nat×Int,fun x=>⟨[(0,.os 0),(1,.ptr 1 0),(2,.ptr 2 0)],[.ab (r (x.1+1)),.cells [.v (.int .i64 x.2.2)],.cells (cellsOf .district d)]⟩,fun x=>Cv d x.2.1 x.2.2∧items.drop x.1=(upL d x.2.1 x.2.2).map Cw∧x.1≤items.length,fun x=>x.2.1,(0,n0.toNat+1,n0),[0,1,2],⟨hp0,hI.symm,Nat.zero_le _⟩,Nat.le_refl _,?_,?_⟩
  ·simp only[go_sem,h0,h1,h2,Nat.reduceBEq,Nat.reduceLeDiff,Nat.reduceAdd,true_and,and_true]
   decide
  ·rintro⟨k,f,n⟩ ⟨hf,hdrop,hk⟩
   simp only at hf hdrop hk
   refine⟨L0,_,ah _,fun _ _ q=>q,?_⟩
   simp only[go_sem,D4 hr,true_imp_iff,decide_eq_true_eq,Bool.false_eq_true,false_imp_iff,Nat.reduceBEq,Nat.reduceLeDiff,Nat.reduceAdd,Nat.reduceSub,Nat.reduceMul,true_and,and_true,implies_true]
   have hlen:(upL d f n).length=items.length - k:=by rw[←List.length_drop,hdrop,List.length_map]
   refine⟨fun hn=>?_,fun hn=>?_⟩
   ·obtain⟨f',rfl,e1,e2,e3⟩:=Jx hf hn
    have hget:items[k]? =some (Cw n):=by
     have:(items.drop k)[0]? =items[k]?:=by rw[List.getElem?_drop];rfl
     rw[←this,hdrop,e3];rfl
    rw[e3]at hdrop hlen
    have hk1:k+1≤items.length:=by simp at hlen;omega
    have hd':items.drop (k+1)=(upL d f' (d.reaches.getD n.toNat (cV .reach)).up).map Cw:=by rw[←List.drop_drop,hdrop];rfl
    refine⟨hget,⟨⟨hn,e1⟩,(k+1,f',(d.reaches.getD n.toNat (cV .reach)).up),[0,1,2],⟨e2,hd',hk1⟩,Nat.lt_succ_self _,?_⟩,⟨(0,true),[0,1,2],.inl rfl,rfl,?_⟩,fun h=>nomatch h⟩
    all_goals simp only[go_sem,Nat.reduceBEq,Nat.reduceLeDiff,Nat.reduceAdd,true_and,and_true]
    all_goals (first|done|decide|(repeat' (first|refine And.intro ?_ ?_|rfl|decide)))
   ·have hn':¬0≤n:=by simpa using hn
    rw[AP hn']at hlen
    simp at hlen
    refine⟨(k+1,false),[0,1,2],.inr (by show k+1=_;omega),rfl,?_⟩
    simp only[go_sem,Nat.reduceBEq,Nat.reduceLeDiff,Nat.reduceAdd,true_and,and_true]
    decide
 ·unfold ae Tryz.f120
  simp only[go_sem,true_imp_iff,decide_eq_true_eq,Nat.reduceBEq,Nat.reduceLeDiff,Nat.reduceAdd,Nat.reduceSub,Nat.reduceMul,true_and,and_true,implies_true]
  rintro⟨j,b⟩ hj
  cases b
  ·simp only[go_sem]
   exact⟨j,_,_,[0,1,2],hj,rfl,Nat.le_refl 3,by simp only[go_sem,Nat.reduceBEq,Nat.reduceLeDiff,Nat.reduceAdd,true_and,and_true];decide⟩
  ·simp only[go_sem]
   exact⟨j,_,_,[0,1,2],hj,rfl,Nat.le_refl 3,by simp only[go_sem,Nat.reduceBEq,Nat.reduceLeDiff,Nat.reduceAdd,true_and,and_true];decide⟩
end Go.Sx
end
section
namespace Go.Sx
open Go.Proofs
set_option maxRecDepth 100000
set_option linter.unusedSimpArgs false
def hUp (K:Int→District→Option HCon):List Ob→Option HCon
 | [.cells [.v (.int .i64 n)],.cells c] =>pDo (fun d _=>K n d) [] (mn .district c)
 |_=>none
@[go_sem] theorem Wj {K:Int→District→Option HCon}{n:Int}{c:List SV}:hUp K [.cells [.v (.int .i64 n)],.cells c]=pDo (fun d _=>K n d) [] (mn .district c):=(rfl)
theorem FE {K:Int→District→Option HCon}{h:List Ob}{c:HCon}(hh:hUp K h=some c):∃ n d,h=[.cells [.v (.int .i64 n)],.cells (cellsOf .district d)]∧K n d=some c:=by
 unfold hUp at hh
 split at hh
 ·rename_i n cs
  obtain⟨x,r,e1,e2⟩:=Iy (t:=.district) (kd:=fun d _=>K n d) (l:=[.ep cs 0]) hh
  simp at e1
  obtain⟨rfl,rfl⟩:=e1
  exact⟨n,x,rfl,e2⟩
 ·cases hh
abbrev Mo:SV:=.fn 120 [] [.ptr 0 0,.ptr 1 0]
noncomputable def ff:List SV→List Ob→Option HCon:=fun l h=>hUp (fun n d=>pQ (.v (.slice none 0 0)) (pQ Mo (pE (eK (0≤n∧jw d n∧(c8 d n).length*8≤fG) (.os 2) [.dead,.dead,.row .int (c8 d n)]))) l) h
noncomputable def iB:List SV→List Ob→Option HCon:=fun l h=>hUp (fun n d=>pQ Mo (pE (eK (0≤n∧jw d n∧(c8 d n).length*8≤fG) (.os 2) [.dead,.dead,.row .int (c8 d n)])) l) h
def uX:List Int→List Ob
 | [] =>[.dead,.dead,.cells [.v (.slice none 0 0)]]
 |x::l=>[.dead,.dead,.cells [.os 3],.row .int (x::l)]
def uY (x:Int)(l:List Int):Empty⊕List Int:=.inr (l++[x])
theorem zr:∀ (l m:List Int),dV uY l m=.inr (m++l)
 | [],m=>by simp[dV]
 |x::l,m=>by simp only[dV,uY];rw[zr l];simp
theorem Cy {B:Nat}:∀ (l m:List Int),m.length+l.length≤B→okL uY (fun _ s=>s.length+1≤B) l m
 | [],_,_=>trivial
 |x::l,m,h=>⟨by simp at h;omega,fun s' hs=>by
  simp only[uY,Sum.inr.injEq]at hs
  subst hs
  exact Cy l _ (by simp at h ⊢;omega)⟩
theorem PB {d:District}{n:Int}(hn:0≤n):∃ x l,c8 d n=x::l:=⟨_,_,by unfold c8;rw[upL,if_pos hn]⟩
theorem qM:FnOkO Tryz.prog 119 ff:=by
 have hG:ConsOk Tryz.prog (mkG [] []):=aw cg0 cg0
 refine nR mixed am hG (fn:=Tryz.f119) (c:=ae Tryz.f119) (by kernel_rfl) (by kernel_rfl) (by kernel_rfl) (by kernel_rfl) fun l o con h hp=>?_
 unfold ff at h
 obtain⟨n,d,rfl,h0⟩:=FE h
 obtain⟨l0,rfl,h1⟩:=xb h0
 obtain⟨l1,rfl,h2⟩:=xb h1
 obtain⟨rfl,rfl⟩:=rT h2
 obtain⟨hn,hup,hB⟩:=hp
 refine⟨Nat.le_of_ble_eq_true rfl,fun id st=>bif Nat.beq id 0 then some (LC (ρ:=Empty) (σ:=List Int) (lk 2 st.t=.ptr 2 0∧lk 6 st.t=Mo∧st.h=[.cells [.v (.int .i64 n)],.cells (cellsOf .district d),.cells [.v (.slice none 0 0)]]) (dV uY (c8 d n) []) (·.elim) (·.elim) (fun s=>⟨[(2,.ptr 2 0)],uX s⟩))else none,?_,?_⟩
 ·unfold ae Tryz.f119
  simp only[al,true_and,and_true]
  refine uc mixed am hG (by decide) (by decide) (by kernel_rfl) (by kernel_rfl) fun st lc hC hp=>?_
  simp only[go_sem,Nat.reduceBEq,Option.some.injEq]at hC
  subst hC
  obtain⟨t,h⟩:=st
  dsimp only[LC]at hp
  obtain⟨e2,e6,rfl⟩:=hp
  refine⟨120,[.ptr 0 0,.ptr 1 0],Int,_,_,c8 d n,Cw,uY,fun _ s=>s.length+1≤(c8 d n).length,_,[],_,_,_,[(2,.ptr 2 0)],uX,(·.elim),[0,1,2],?_,rfl,Cy _ _ (by simp),Nat.le_of_ble_eq_true rfl,?_,?_,fun x s hq=>⟨rfl,L0,fun l=>ah _,fun l=>ah _,?_⟩,fun s=>?_,fun y=>y.elim⟩
  ·simp only[go_sem,e6]
  ·simp only[go_sem,pz,ji,List.flatMap_cons,List.flatMap_nil,List.nil_append,List.append_nil,List.map_nil,uX,e2,Nat.reduceBEq,Nat.reduceLeDiff,Nat.reduceAdd]
   all_goals (first|done|decide|(repeat' (first|refine And.intro ?_ ?_|rfl|decide)))
  ·exact TT d n hup
  ·have hb:(s++[x]).length*8≤fG:=by simp;omega
   cases s with
   |nil=>
    simp only[go_sem,psT,Cw,uX,uY,List.cons_append,List.nil_append,Nat.reduceBEq,Nat.reduceLeDiff,Nat.reduceAdd,Nat.reduceSub,Nat.reduceMul]
    exact⟨by simpa using hb,fun _=>fk [0,1,2,4]⟩
   |cons a m=>
    simp only[go_sem,psT,Cw,uX,uY,List.cons_append,List.nil_append,Nat.reduceBEq,Nat.reduceLeDiff,Nat.reduceAdd,Nat.reduceSub,Nat.reduceMul]
    exact⟨by simpa using hb,fun _=>fk [0,1,2,5]⟩
  ·cases s with
   |nil=>simp only[uX];exact fk [0,1,2]
   |cons a m=>simp only[uX];exact fk [0,1,2,3]
 ·unfold ae Tryz.f119
  obtain⟨x,l,hx⟩:=PB (d:=d) hn
  simp only[go_sem,Nat.reduceBEq,Nat.reduceLeDiff,Nat.reduceAdd,Nat.reduceSub,Nat.reduceMul,zr,hx,uX,List.nil_append]
  refine⟨fun y=>y.elim,fun s hs=>?_⟩
  cases hs
  simp only[go_sem,Nat.reduceBEq,Nat.reduceLeDiff,Nat.reduceAdd,Nat.reduceSub,Nat.reduceMul]
  refine⟨(),_,_,[0,1,3],trivial,rfl,?_⟩
  simp only[go_sem,hx,Nat.reduceBEq,Nat.reduceLeDiff,Nat.reduceAdd,true_and,and_true]
  all_goals (first|done|decide|(repeat' (first|refine And.intro ?_ ?_|rfl|decide)))
theorem tt:FnOkO Tryz.prog 81 iB:=by
 have hG:ConsOk Tryz.prog (mkG [] [(119,ff)]):=aw cg0 (cgc qM cg0)
 refine nR mixed am hG (fn:=Tryz.f81) (c:=ae Tryz.f81) (by kernel_rfl) (by kernel_rfl) (by kernel_rfl) (by kernel_rfl) fun l o con h hp=>?_
 unfold iB at h
 obtain⟨n,d,rfl,h0⟩:=FE h
 obtain⟨l1,rfl,h2⟩:=xb h0
 obtain⟨rfl,rfl⟩:=rT h2
 refine⟨Nat.le_of_ble_eq_true rfl,L0,ah _,?_⟩
 unfold ae Tryz.f81
 simp only[go_sem,ff,Mo,Nat.reduceBEq,Nat.reduceLeDiff,Nat.reduceAdd,Nat.reduceSub,Nat.reduceMul]
 refine⟨hp,(),_,_,[0,1,2],trivial,rfl,?_⟩
 simp only[go_sem,Nat.reduceBEq,Nat.reduceLeDiff,Nat.reduceAdd,true_and,and_true]
 all_goals (first|done|decide|(repeat' (first|refine And.intro ?_ ?_|rfl|decide)))
attribute [go_sem] ff iB
end Go.Sx
end
section
namespace Go.Sx
open Go.Proofs
set_option maxRecDepth 100000
set_option linter.unusedSimpArgs false
@[go_sem] def bi (l_:List Int)(k_0:Nat)(s_0:List Int×Int×Int):(List Int)⊕(List Int×Int×Int):=(bif(decide (s_0.2.1<s_0.2.2))then .inr (((s_0.1.set (Int.toNat s_0.2.1) (s_0.1.getD (Int.toNat s_0.2.2) (0:Int))).set (Int.toNat s_0.2.2) (s_0.1.getD (Int.toNat s_0.2.1) (0:Int))),(IntKind.i64.wrap (s_0.2.1+1)),(IntKind.i64.wrap (s_0.2.2 - 1)))else .inl s_0.1)
def bV (l_:List Int)(k_0:Nat)(s_0:List Int×Int×Int):Prop:=((decide (s_0.2.1<s_0.2.2))=true→((0≤s_0.2.2∧s_0.2.2< (s_0.1.length:Int))∧((0≤s_0.2.1∧s_0.2.1< (s_0.1.length:Int))∧((0≤s_0.2.1∧s_0.2.1< (s_0.1.length:Int))∧(0≤s_0.2.2∧s_0.2.2< ((s_0.1.set (Int.toNat s_0.2.1) (s_0.1.getD (Int.toNat s_0.2.2) (0:Int))).length:Int))))))
def d6 (l_:List Int):List Int:=(match an (bi l_) (l_.length+1) 0 (l_,0,(IntKind.i64.wrap ((l_.length:Int) - 1)))with| .inl x_0_0=>x_0_0| .inr s_0=>default)
def er (l_:List Int):Prop:=(l_.length≤bp→(okI (bi l_) (bV l_) (l_.length+1) 0 (l_,0,(IntKind.i64.wrap ((l_.length:Int) - 1)))∧(∀ z_,an (bi l_) (l_.length+1) 0 (l_,0,(IntKind.i64.wrap ((l_.length:Int) - 1)))≠ .inr z_)))
@[go_sem] noncomputable def fI:List SV→List Ob→Option HCon:=fun l h=>D_ .int (fun l_=>(pQ (.os 0) (pE (eK (er l_) (.tup []) [.row .int (d6 l_)]))) l) h
theorem mO:FnOkO Tryz.prog 83 fI:=by
 have hG:ConsOk Tryz.prog (mkG [] []):=aw cg0 cg0
 refine fQ mixed am hG (fn:=Tryz.f83) (c:=ae Tryz.f83) (by kernel_rfl) (by kernel_rfl) (by kernel_rfl) (by kernel_rfl) fun l o con h=>?_
 unfold fI at h
 obtain⟨l_,rfl,h⟩:=Cd h
 obtain⟨r0,rfl,h0⟩:=xb h
 obtain⟨rfl,rfl⟩:=rT h0
 clear h h0
 refine⟨_,_,_,rfl,fun hp=>?_⟩
 unfold er at hp
 refine⟨Nat.le_of_ble_eq_true rfl,(fun id st=>bif Nat.beq id 0 then some (LCV (ρ:=(List Int)) (σ:=(List Int×Int×Int)) 1 [] [0] (fun k_0 s_0=>⟨[(0,.os 0),(2,.v (.int .i64 s_0.2.1)),(3,.v (.int .i64 s_0.2.2))],[.row .int s_0.1]⟩) (bi l_) (bV l_) (l_.length+1) (l_,0,(IntKind.i64.wrap ((l_.length:Int) - 1))) (fun _=>.normal) (fun x_0_0=>⟨[],[.row .int x_0_0]⟩) st)else none),?_,?_⟩
 ·unfold ae Tryz.f83
  simp only[al,true_and,and_true]
  ·refine fc mixed am hG (by kernel_rfl) (fun _=>rfl) fun k_0 s_0 hq0=>⟨L0,ah _,?_⟩
   ·unfold bV at hq0
    exact gz
 ·unfold ae Tryz.f83
  try unfold d6
  simp only[go_sem,Nat.reduceBEq,Nat.reduceLeDiff,Nat.reduceLT,decide_true,Nat.reduceAdd,Nat.reduceSub,Nat.reduceMul,Int.reduceLE,Int.reduceLT,Int.reduceToNat,Int.reduceNeg,reduceCtorEq]
  all_goals exact fR
@[go_sem] def lK (d:District)(l_:List Int)(k_0:Nat)(s_0:Unit):Unit⊕Unit:=(bif((decide ((l_.getD k_0 (0:Int)) <0)) ||(decide ((l_.getD k_0 (0:Int))≥(d.reaches.length:Int))))then .inl ()else .inr ())
def fE (d:District)(l_:List Int):Int:=(bif((ar d) !=0)then(ar d)else(match an (lK d l_) l_.length 0 ()with| .inl x_0_0=>1| .inr s_0=>0))
@[go_sem] def qb:List SV→Option Con:=(pD .district fun d=>(pR .int fun l_=>(pE (.det True (.v (.int .i64 (fE d l_)))))))
theorem vv:FnOk Tryz.prog 80 qb:=by
 have hG:ConsOk Tryz.prog (mkG [(34,fun l=>jL (dp [.st .district] l))] []):=aw (cgc (lF.norm [.st .district]) cg0) cg0
 refine aX [.o] mixed am hG (fn:=Tryz.f80) (c:=ae Tryz.f80) (by kernel_rfl) (by kernel_rfl) (by kernel_rfl) (by kernel_rfl) (aY fun d=>(dW fun l_=>(aF (fun hp=>?_))))
 dsimp only[aD]at hp
 refine⟨Nat.le_of_ble_eq_true rfl,(fun id st=>bif Nat.beq id 0 then some (LCR (ρ:=Unit) (σ:=Unit) 1 [] [0] (fun k_0 s_0=>⟨[(2,.ptr 0 0),(13,.rs .int l_),(14,.v (.int .i64 (l_.length:Int))),(15,.v (.int .i64 (k_0:Int)))],[.cells (cellsOf .district d)]⟩) (lK d l_) pT l_.length () (l_.length≤bp) (fun _=>.ret) (fun x_0_0=>⟨[(4,.v (.int .i64 1))],[.dead]⟩) st)else none),?_,?_⟩
 ·unfold ae Tryz.f80
  simp only[al,true_and,and_true]
  ·refine dy mixed am hG (by kernel_rfl) (fun _=>rfl) (l_.length:Int) rfl iS (fun hb0 k_0 s_0 hlt0 _ hw hc=>⟨L0,ah _,?_⟩) (fun hb0 s_0 hc=>?_)
   ·exact fu
   ·exact fv
 ·unfold ae Tryz.f80
  try unfold fE
  simp only[go_sem,Nat.reduceBEq,Nat.reduceLeDiff,Nat.reduceLT,decide_true,Nat.reduceAdd,Nat.reduceSub,Nat.reduceMul,Int.reduceLE,Int.reduceLT,Int.reduceToNat,Int.reduceNeg,reduceCtorEq]
  all_goals exact cl
def db (d:District)(reach:Int):List Int×Int:=(bif((fE d ([reach])) !=0)then([],(fE d ([reach])))else((d6 (c8 d reach)),0))
def kK (d:District)(reach:Int):Prop:=(((fE d ([reach])) !=0)=false→((0≤reach∧jw d reach∧(c8 d reach).length*8≤fG)∧(er (c8 d reach))))
@[go_sem] def rt:List SV→Option Con:=(pD .district fun d=>(pI fun reach=>(pE (.det (kK d reach) (.tup [.nw .int ((db d reach).1),.v (.int .i64 ((db d reach).2))])))))
theorem xG:FnOk Tryz.prog 46 rt:=by
 have hG:ConsOk Tryz.prog (mkG [(80,fun l=>qb (dp [.st .district,.sl .int] l))] [(81,iB),(82,qa),(83,fI)]):=aw (cgc (vv.norm [.st .district,.sl .int]) cg0) (cgc tt (cgc AQ (cgc mO cg0)))
 refine oC [(.tmp 4,.int)] mixed am hG (fn:=Tryz.f46) (c:=ae Tryz.f46) (by kernel_rfl) (by kernel_rfl) (by kernel_rfl) (by kernel_rfl) (aY fun d=>(b_ fun reach=>(aF (fun hp=>?_))))
 dsimp only[aD]at hp
 unfold kK at hp
 refine⟨Nat.le_of_ble_eq_true rfl,L0,ah _,?_⟩
 ·unfold ae Tryz.f46
  try unfold db
  simp only[go_sem,Nat.reduceBEq,Nat.reduceLeDiff,Nat.reduceLT,decide_true,Nat.reduceAdd,Nat.reduceSub,Nat.reduceMul,Int.reduceLE,Int.reduceLT,Int.reduceToNat,Int.reduceNeg,reduceCtorEq]
  all_goals exact cl
end Go.Sx
end
section
namespace Go.Sx
open Go.Proofs
set_option maxRecDepth 100000
theorem ru {ρ τ:Type}{step:τ→Unit→ρ⊕Unit}:∀ {L:List τ},dV step L ()=.inr ()↔∀ x∈L,step x ()=.inr ()
 | [] =>by simp[dV]
 |x::r=>by
  simp only[dV,List.mem_cons,forall_eq_or_imp]
  cases h:step x ()with
  |inl y=>simp
  |inr y=>simp only[true_and];exact ru
theorem Cz {α:Type}(l:List α)(d r:α)(i k:Nat)(hi:i<l.length):(l.set i r).getD k d=if k=i then r else l.getD k d:=by
 rw[List.getD_eq_getElem?_getD,List.getElem?_set,List.getD_eq_getElem?_getD]
 by_cases h:k=i
 ·subst h;simp[hi]
 ·rw[if_neg (fun e=>h e.symm),if_neg h]
theorem AR (l:List Int)(hl:l.length≤bp):okI (bi l) (bV l) (l.length+1) 0 (l,0,(IntKind.i64.wrap ((l.length:Int) - 1)))∧an (bi l) (l.length+1) 0 (l,0,(IntKind.i64.wrap ((l.length:Int) - 1)))=.inl l.reverse:=by
 unfold bp at hl
 rw[bj (by omega) (by omega)]
 have key:∀ (n k:Nat) (s:List Int),n+k=l.length+1→s.length=l.length→2*k≤l.length+1→(∀ p,p<l.length→s.getD p 0=if p<k∨l.length≤p+k then l.getD (l.length - 1 - p) 0 else l.getD p 0)→
   okI (bi l) (bV l) n k (s,(k:Int),(l.length:Int) - 1 - k)∧(1≤n→an (bi l) n k (s,(k:Int),(l.length:Int) - 1 - k)=.inl l.reverse):=by
  intro n
  induction n with
  |zero=>intro k s _ _ _ _;exact⟨trivial,fun h=>by omega⟩
  |succ n ih=>
   intro k s hn hs hk hp
   have hstep:bi l k (s,(k:Int),(l.length:Int) - 1 - k)=if(k:Int) < (l.length:Int) - 1 - k then .inr ((s.set k (s.getD (l.length - 1 - k) 0)).set (l.length - 1 - k) (s.getD k 0),((k+1:Nat):Int),(l.length:Int) - 1 - ((k+1:Nat):Int))else .inl s:=by
    unfold bi
    simp only
    by_cases hlt:(k:Int) < (l.length:Int) - 1 - k
    ·rw[decide_eq_true hlt,if_pos hlt,bj (by omega) (by omega),bj (by omega) (by omega)]
     simp only[cond_true,Int.toNat_natCast]
     have e:((l.length:Int) - 1 - k).toNat=l.length - 1 - k:=by omega
     rw[e]
     congr 2
     congr 1
     omega
    ·rw[decide_eq_false hlt,if_neg hlt];rfl
   by_cases hlt:(k:Int) < (l.length:Int) - 1 - k
   ·have hnew:∀ p,p<l.length→((s.set k (s.getD (l.length - 1 - k) 0)).set (l.length - 1 - k) (s.getD k 0)).getD p 0=if p<k+1∨l.length≤p+(k+1)then l.getD (l.length - 1 - p) 0 else l.getD p 0:=fun p hpl=>by
     rw[Cz _ _ _ _ _ (by rw[List.length_set,hs];omega),Cz _ _ _ _ _ (by rw[hs];omega)]
     have h1:=hp k (by omega)
     have h2:=hp (l.length - 1 - k) (by omega)
     rw[if_neg (by omega)]at h1 h2
     by_cases q1:p=l.length - 1 - k
     ·rw[if_pos q1,if_pos (by omega),h1]
      congr 1;omega
     ·rw[if_neg q1]
      by_cases q2:p=k
      ·rw[if_pos q2,if_pos (by omega),h2]
       congr 1;omega
      ·rw[if_neg q2,hp p hpl]
       by_cases q3:p<k∨l.length≤p+k
       ·rw[if_pos q3,if_pos (by omega)]
       ·rw[if_neg q3,if_neg (by omega)]
    have:=ih (k+1) _ (by omega) (by rw[List.length_set,List.length_set,hs]) (by omega) hnew
    refine⟨⟨?_,fun s' hs'=>?_⟩,fun _=>?_⟩
    ·unfold bV
     simp only
     intro _
     have e1:(s.set (Int.toNat (k:Int)) (s.getD (Int.toNat ((l.length:Int) - 1 - k)) 0)).length=l.length:=by rw[List.length_set,hs]
     rw[hs,e1]
     omega
    ·rw[hstep,if_pos hlt]at hs'
     cases hs'
     exact this.1
    ·simp only[an,hstep,if_pos hlt]
     exact this.2 (by omega)
   ·refine⟨⟨?_,fun s' hs'=>?_⟩,fun _=>?_⟩
    ·unfold bV
     simp only
     intro h
     rw[decide_eq_true_eq]at h
     exact absurd h hlt
    ·rw[hstep,if_neg hlt]at hs';cases hs'
    ·simp only[an,hstep,if_neg hlt]
     congr 1
     apply List.ext_getElem
     ·rw[hs,List.length_reverse]
     ·intro p h1 h2
      rw[List.getElem_reverse]
      have:=hp p (by omega)
      rw[gm s 0 h1,gm l 0 (by omega)]at this
      rw[this]
      by_cases q:p<k∨l.length≤p+k
      ·rw[if_pos q]
      ·rw[if_neg q,gm l 0 (by omega)]
       congr 1;omega
 have h0:=key (l.length+1) 0 l (by omega) rfl (by omega) (fun p hp=>by rw[if_neg (by omega)])
 have e:(l.length:Int) - 1 - (0:Nat)=(l.length:Int) - 1:=by omega
 rw[e]at h0
 exact⟨h0.1,h0.2 (by omega)⟩
theorem PC (l:List Int)(hl:l.length≤bp):d6 l=l.reverse:=by
 unfold d6
 rw[(AR l hl).2]
theorem TU (l:List Int):er l:=fun hl=>⟨(AR l hl).1,fun z hz=>by rw[(AR l hl).2]at hz;cases hz⟩
theorem TV {d:District}(hr:Right1 d){n:Int}(h0:0≤n)(h1:n< (d.reaches.length:Int)):(0<n∧0≤(d.reaches.getD n.toNat (cV .reach)).up∧(d.reaches.getD n.toNat (cV .reach)).up<n)∨(n=0∧(d.reaches.getD n.toNat (cV .reach)).up= -1):=by
 have:=((Jq _ _).1 (hr.reach n.toNat (by omega))).1
 rw[Int.toNat_of_nonneg h0]at this
 rcases this with⟨a,b,c⟩ | ⟨a,b⟩
 ·exact .inl ⟨by omega,b,c⟩
 ·exact .inr ⟨by omega,b⟩
theorem CA {d:District}(hr:Right1 d):∀ (f:Nat) (n:Int),n< (d.reaches.length:Int)→n<f→Cv d f n∧(upL d f n).length≤f∧∀ x∈upL d f n,0≤x∧x< (d.reaches.length:Int)
 |0,n,h1,h2=>⟨by unfold Cv;omega,Nat.le_refl _,fun x hx=>by cases hx⟩
 |f+1,n,h1,h2=>by
  by_cases h0:0≤n
  ·have hup:(d.reaches.getD n.toNat (cV .reach)).up<n:=by rcases TV hr h0 h1 with⟨_,_,h⟩ | ⟨h,h'⟩ <;>omega
   obtain⟨i1,i2,i3⟩:=CA hr f (d.reaches.getD n.toNat (cV .reach)).up (by omega) (by omega)
   refine⟨fun _=>⟨h1,i1⟩,?_,fun x hx=>?_⟩
   ·rw[upL,if_pos h0,List.length_cons];omega
   ·rw[upL,if_pos h0]at hx
    rcases List.mem_cons.1 hx with rfl|hx
    ·exact⟨h0,h1⟩
    ·exact i3 x hx
  ·refine⟨fun h=>absurd h h0,by rw[AP h0];simp,fun x hx=>by rw[AP h0]at hx;cases hx⟩
theorem ut (d:District)(l:List Int):fE d l=0↔ar d=0∧∀ x∈l,0≤x∧x< (d.reaches.length:Int):=by
 unfold fE
 cases h1:(ar d !=0)with
 |true=>simp at h1;simp[h1]
 |false=>
  simp at h1
  simp only[cond_false,h1,true_and]
  let f:Int→Unit→Unit⊕Unit:=fun x _=>(bif((decide (x<0)) ||(decide (x≥(d.reaches.length:Int))))then .inl ()else .inr ())
  have e:an (lK d l) l.length 0 ()=dV f l ():=oA f 0 l ()
  have key:dV f l ()=.inr ()↔∀ x∈l,0≤x∧x< (d.reaches.length:Int):=by
   rw[ru]
   refine forall_congr' fun x=>forall_congr' fun hx=>?_
   simp only[f]
   by_cases q:x<0
   ·rw[decide_eq_true q];simp;omega
   ·by_cases q2:x≥(d.reaches.length:Int)
    ·rw[decide_eq_true q2];simp;omega
    ·rw[decide_eq_false q,decide_eq_false q2];simp;omega
  rw[e,←key]
  cases h:dV f l ()with
  |inl y=>simp
  |inr y=>simp
structure PathOk (d:District)(reach:Int):Prop where
 chk:ar d=0
 r0:0≤reach
 r1:reach< (d.reaches.length:Int)
theorem PathOk.right {d:District}{reach:Int}(h:PathOk d reach):Right1 d:=lj (by rw[h.chk];rfl)
theorem CB (d:District)(reach:Int):fE d [reach]=0↔PathOk d reach:=by
 rw[ut]
 exact⟨fun⟨h1,h2⟩ =>⟨h1,(h2 reach (by simp)).1,(h2 reach (by simp)).2⟩,fun h=>⟨h.chk,fun x hx=>by rw[List.mem_singleton]at hx;subst hx;exact⟨h.r0,h.r1⟩⟩⟩
theorem PathOk.up {d:District}{reach:Int}(h:PathOk d reach):jw d reach∧(c8 d reach).length≤64∧∀ x∈c8 d reach,0≤x∧x< (d.reaches.length:Int):=by
 have:=CA h.right (reach.toNat+1) reach h.r1 (by have:=h.r0;omega)
 have h1:=h.right.reaches
 have h2:=h.r1
 exact⟨this.1,by have:=this.2.1;unfold c8;omega,this.2.2⟩
theorem rz (d:District)(reach:Int):kK d reach:=fun h=>by
 have hp:=(CB d reach).1 (by simpa using h)
 have hu:=hp.up
 exact⟨⟨hp.r0,hu.1,by unfold fG;omega⟩,TU _⟩
theorem xH {d:District}{reach:Int}(h:PathOk d reach):db d reach=((c8 d reach).reverse,0):=by
 unfold db
 rw[(CB d reach).2 h,PC _ (by have:=h.up.2.1;unfold bp;omega)]
 rfl
end Go.Sx
end
section
namespace Go.Sx
open Go.Proofs
theorem CC (x:Int)(l:List Int):eP (x::l)=if x=0 then eP l else x:=by
 have key:∀ l:List Int,eP l=match dV (ρ:=Int) (fun(x:Int) (_:Unit) =>bif(x !=0)then .inl x else .inr ()) l ()with| .inl y=>y| .inr _=>0:=fun l=>by
  unfold eP
  have:=oA (ρ:=Int) (fun(x:Int) (_:Unit) =>bif(x !=0)then .inl x else .inr ()) 0 l ()
  rw[←this]
  rfl
 rw[key,key]
 simp only[dV]
 by_cases h:x=0
 ·subst h;rfl
 ·have:(x !=0)=true:=by simpa using h
  rw[if_neg h,this];rfl
theorem Ec:eP []=0:=rfl
theorem xI:∀ l:List (Int×Int),(eP (l.map fun p=>bX p.1 p.2) <0↔lJ l)
 | [] =>by simp[Ec,lJ]
 |(a,b)::r=>by
  have hc:=nh a b
  simp only[List.map_cons,CC,hc,lJ]
  rcases Int.lt_trichotomy a b with h|h|h
  ·simp[h]
  ·subst h
   simp only[Int.lt_irrefl,if_false,if_true,true_and,false_or,gt_iff_lt]
   exact xI r
  ·have h1:¬a<b:=by omega
   have h2:a≠b:=by omega
   simp[h1,h2,h]
def ln (a b:Claim):Prop:=lJ [(a.hour,b.hour),(a.rank,b.rank),(a.right,b.right),(a.farm,b.farm)]
theorem qc (a b:Claim):cJ a b<0↔ln a b:=xI [(a.hour,b.hour),(a.rank,b.rank),(a.right,b.right),(a.farm,b.farm)]
theorem tu (a b:ClaimsFound):dI a b<0↔ln a.claim b.claim:=qc a.claim b.claim
open Go.Shelf Go.Sort in
theorem zt:SWO (ltOf dI):=Jg tu (fun x=>by simp only[ln,lJ,and_false,or_false];omega) (fun x y z h1 h2=>by simp only[ln,lJ,and_false,or_false]at *;omega) (fun x y z h1 h2=>by simp only[ln,lJ,and_false,or_false]at *;omega)
end Go.Sx
end
section
namespace Go.Sx
def PD {α:Type}:Result α→World
 | .ok _ w=>w
 | .halt _ w=>w
theorem Ed {α:Type}:∀ (a:Ask α) (w:World),w.drawn≤(w.ask a).2.drawn
 | .done a,w=>Nat.le_refl _
 | .ask what range k,w=>by
  unfold World.ask
  dsimp only
  split
  ·exact Ed _ w
  ·exact Nat.le_trans (Nat.le_succ _) (Ed _ { w with drawn:=w.drawn+1})
theorem PE (w:World)(c:Sys):w.drawn≤(w.sys c).2.drawn:=by
 unfold World.sys
 have:=Ed (Kernel.perform c w.os) w
 split
 ·exact Nat.le_refl _
 ·rename_i h
  rw[h]at this
  exact this
theorem CD {p:Program}{w w':World}{a:Addr}{v:Value}{b:Bool}{l:List Addr}(h:w.farStore p a v b=.ok (w',l)):w'.drawn=w.drawn:=by
 unfold World.farStore at h
 split at h
 ·split at h
  ·rename_i r hr
   cases h
   unfold World.viewStore at hr
   simp only[bind,Except.bind,pure,Except.pure]at hr
   repeat' split at hr
   all_goals (first|(cases hr;done) |skip)
   all_goals (cases hr;rfl)
  ·cases h
 ·cases h
theorem AS {α:Type}(p:Program):∀ (s:Sem α) (w:World),w.drawn≤(PD (s.run p w)).drawn:=by
 intro s
 induction s with
 |pure a=>intro w;exact Nat.le_refl _
 |load m a k ih=>
  intro w
  unfold Sem.run
  split
  ·exact ih _ w
  ·split
   ·exact ih _ w
   ·exact Nat.le_refl _
 |store m a v k ih=>
  intro w
  cases v
  case agg=>exact Nat.le_refl _
  case tuple=>exact Nat.le_refl _
  all_goals
   simp only[Sem.run]
   split
   ·split
    ·exact Nat.le_refl _
    ·exact ih (w.setCell a _)
   ·split
    ·rename_i h
     rw[←CD h];exact ih _
    ·exact Nat.le_refl _
 |new o k ih=>intro w;exact ih w.heap.size { w with heap:=w.heap.push o}
 |shape r k ih=>intro w;exact ih _ _
 |freeze a n k ih=>
  intro w
  have:(w.freeze a n).drawn=w.drawn:=by unfold World.freeze;split <;>rfl
  rw[←this];exact ih _
 |frozen a k ih=>intro w;exact ih _ _
 |getObj r k ih=>
  intro w
  unfold Sem.run
  split
  ·exact Nat.le_refl _
  ·exact ih _ _
  ·exact Nat.le_refl _
 |setObj r o k ih=>
  intro w
  unfold Sem.run
  split
  ·exact Nat.le_refl _
  ·exact ih { w with heap:=w.heap.setIfInBounds r o}
  ·exact Nat.le_refl _
 |choose q k ih=>
  intro w
  unfold Sem.run
  split
  ·exact ih _ _
  ·exact Nat.le_trans (Nat.le_succ _) (ih _ { w with drawn:=w.drawn+1})
 |sys c k ih=>intro w;exact Nat.le_trans (PE w c) (ih _ _)
 |program k ih=>intro w;exact ih _ _
 |mark m k ih=>intro w;exact ih _
 |halt h=>intro w;exact Nat.le_refl _
theorem Jy {α:Type}(p:Program):∀ (s:Sem α) (w:World) (es:Array Event),(s.runT p w es).1=s.run p w:=by
 intro s
 induction s with
 |store m a v k ih=>
  intro w es
  cases v
  case agg=>rfl
  case tuple=>rfl
  all_goals
   simp only[Sem.runT,Sem.run]
   split
   ·split
    ·rfl
    ·exact ih _ _
   ·split
    ·exact ih _ _
    ·rfl
 |load m a k ih=>
  intro w es
  simp only[Sem.runT,Sem.run]
  split
  ·exact ih _ _ _
  ·split
   ·exact ih _ _ _
   ·rfl
 |getObj r k ih=>
  intro w es
  simp only[Sem.runT,Sem.run]
  split
  ·rfl
  ·exact ih _ _ _
  ·rfl
 |setObj r o k ih=>
  intro w es
  simp only[Sem.runT,Sem.run]
  split
  ·rfl
  ·exact ih _ _
  ·rfl
 |choose q k ih=>
  intro w es
  simp only[Sem.runT,Sem.run]
  split
  ·exact ih _ _ _
  ·exact ih _ _ _
 |pure a=>intro w es;rfl
 |new o k ih=>intro w es;exact ih _ _ _
 |shape r k ih=>intro w es;exact ih _ _ _
 |freeze a n k ih=>intro w es;exact ih _ _
 |frozen a k ih=>intro w es;exact ih _ _ _
 |sys c k ih=>intro w es;exact ih _ _ _
 |program k ih=>intro w es;exact ih _ _ _
 |mark m k ih=>intro w es;exact ih _ _
 |halt h=>intro w es;rfl
theorem il {α:Type}{p:Program}{s:Sem α}{w w':World}{a:α}(h:s.run p w=.ok a w'):w.drawn≤w'.drawn:=by have:=AS p s w;rw[h]at this;exact this
theorem Jz {α:Type}{p:Program}{s:Sem α}{w w':World}{a:Halt}(h:s.run p w=.halt a w'):w.drawn≤w'.drawn:=by have:=AS p s w;rw[h]at this;exact this
theorem l9 {α:Type}{p:Program}{s:Sem α}{w:World}{es es':Array Event}{r:Result α}(h:s.runT p w es=(r,es')):w.drawn≤(PD r).drawn:=by
 have:=Jy p s w es
 rw[h]at this
 have h2:=AS p s w
 rw[←this]at h2
 exact h2
def gLe (w:World):GStep→Prop
 | .ended .. =>True
 | .go _ w' _| .comm _ _ _ _ w' _| .spawn _ _ w' _| .count _ w' _| .timer _ _ w' _| .alone _ _ w' _| .newcoro _ _ _ w' _| .coroswitch _ _ _ w' _| .collect _ w' _| .watch _ w' _=>w.drawn≤w'.drawn
theorem gLe.after {w:World}{es:Array Event}{s:GStep}(h:gLe w s):gLe w (s.after es):=by cases s <;>exact h
theorem gLe.trans {w w':World}{s:GStep}(h1:w.drawn≤w'.drawn)(h:gLe w' s):gLe w s:=by cases s <;>first|trivial|exact Nat.le_trans h1 h
theorem tv {c:Prop}[Decidable c]{w:World}{a b:GStep}(h1:gLe w a)(h2:gLe w b):gLe w (if c then a else b):=by split <;>assumption
theorem nk (fr:Frame)(m:String)(w:World):gLe w (endThrow fr m w):=Nat.le_refl _
theorem qd (p:Program)(fr:Frame)(v:Value)(w:World):gLe w (endPrinting p fr v w):=by
 unfold endPrinting
 dsimp only
 split
 ·exact nk _ _ _
 ·trivial
theorem uZ (p:Program)(fr:Frame)(callers:List Frame)(dying:Option Dying)(m:String)(w:World):gLe w (endFatal p fr callers dying m w):=by
 unfold endFatal
 extract_lets
 split
 ·rename_i h;exact il h
 ·trivial
 ·trivial
theorem Ee (p:Program)(fr:Frame)(d:Dying)(f:Fatal)(w:World):gLe w (writeOn p fr d f w):=by
 unfold writeOn
 extract_lets
 split
 ·trivial
 ·extract_lets
  generalize h:Sem.runT _ _ _ _=rr
  obtain⟨r,es⟩:=rr
  have h:=l9 h
  split
  ·rename_i e;cases e;exact h
  ·rename_i e;cases e;exact h
  ·trivial
  ·trivial
theorem Ef (w w':World)(fd:Nat)(t:ByteArray)(o:Outcome):gLe w (endWith w' fd t o):=by
 unfold endWith
 extract_lets
 split
 ·split <;>trivial
 ·trivial
 ·trivial
theorem PG (p:Program)(fr:Frame)(d:Dying)(w:World):gLe w (die p fr d w):=by
 unfold die
 split
 ·exact Ee _ _ _ _ _
 ·split
  ·split
   ·exact Nat.le_refl _
   ·exact Ef _ _ _ _ _
  ·extract_lets
   split
   ·exact Nat.le_refl _
   ·split
    ·rename_i h;exact il h
    ·trivial
   ·split
    rename_i h
    have h:=l9 h
    refine gLe.after ?_
    split
    all_goals first|exact h|trivial|exact gLe.trans h (qd _ _ _ _)
   ·trivial
theorem qe (p:Program)(main:Bool)(fr:Frame)(callers:List Frame)(dying:Option Dying)(v:Value)(w:World):gLe w (doReturn p main fr callers dying v w):=by
 unfold doReturn
 split
 ·split
  all_goals exact Nat.le_refl _
 ·split
  ·exact Nat.le_refl _
  ·trivial
  ·split
   ·exact Nat.le_refl _
   ·split
    ·exact Nat.le_refl _
    ·trivial
theorem vz (p:Program)(fr:Frame)(callers:List Frame)(dying:Option Dying)(d:Deferred)(w:World):gLe w (callDeferred p fr callers dying d w):=by
 unfold callDeferred
 refine tv trivial ?_
 rcases h:(invoke d.target d.args).runT p w #[]with⟨r,es⟩
 have h:=l9 h
 dsimp only
 refine gLe.after ?_
 split
 all_goals first|exact h|trivial|exact gLe.trans h (uZ _ _ _ _ _ _) |exact gLe.trans h (nk _ _ _) |skip
 split <;>exact h
theorem G1 (p:Program)(main:Bool)(fr:Frame)(callers:List Frame)(dying:Option Dying)(w:World):gLe w (unwind p main fr callers dying w):=by
 unfold unwind
 split
 ·split
  rename_i h
  have h:=l9 h
  refine gLe.after ?_
  split
  ·exact h
  ·trivial
 ·exact vz _ _ _ _ _ _
 ·split
  ·trivial
  ·split
   ·trivial
   ·split
    ·exact Nat.le_refl _
    ·split
     ·split
      ·exact Nat.le_refl _
      ·split
       ·rename_i h;exact il h
       ·trivial
       ·trivial
     ·split
      ·exact qd _ _ _ _
      ·trivial
  ·split
   ·exact qe _ _ _ _ _ _ _
   ·split
    rename_i h
    have h:=l9 h
    refine gLe.after ?_
    split
    ·exact gLe.trans h (qe _ _ _ _ _ _ _)
    ·trivial
    ·trivial
theorem JA (p:Program)(fr:Frame)(callers:List Frame)(dying:Option Dying)(g:Nat)(w:World):gLe w (early p fr callers dying g w):=by
 unfold early
 extract_lets refuse notYet there
 have hn:∀ w0:World,w.drawn≤w0.drawn→gLe w (notYet w0):=fun w0 h0=>by
  show gLe w (match w0.heap[g]? with|some (.pending c elem) =>_|_=>_)
  split
  ·exact h0
  ·trivial
 split
 ·exact hn w (Nat.le_refl _)
 ·split
  ·trivial
  ·extract_lets there
   have ht:∀ w0:World,w.drawn≤w0.drawn→gLe w (there w0):=fun w0 h0=>h0
   split
   ·exact hn w (Nat.le_refl _)
   ·split
    ·exact hn w (Nat.le_refl _)
    ·split
     ·trivial
     ·exact ht w (Nat.le_refl _)
     ·trivial
     ·exact hn w (Nat.le_refl _)
     ·split
      ·exact ht w (Nat.le_refl _)
      ·split
       ·exact hn w (Nat.le_refl _)
       ·split
        ·rename_i h;exact hn _ (il h)
        ·rename_i h;exact ht _ (il h)
        ·trivial
end Go.Sx
end
section
namespace Go.Sx
theorem qf (p:Program)(listen:Bool)(fr:Frame)(callers:List Frame)(dying:Option Dying)(s:Sem Next)(w:World):gLe w (Go.stepG.apply p listen fr callers dying s w):=by
 unfold Go.stepG.apply
 extract_lets go kind
 have hr:∃ r es,(if listen=true then s.runT p w #[]else(s.run p w,#[]))=(r,es)∧w.drawn≤(PD r).drawn:=by
  split
  ·rcases h:s.runT p w #[]with⟨r,es⟩
   exact⟨r,es,rfl,l9 h⟩
  ·exact⟨_,_,rfl,AS p s w⟩
 obtain⟨r,es,he,h⟩:=hr
 rw[he]
 dsimp only
 refine gLe.after ?_
 have hgo:∀ fr w0,w.drawn≤w0.drawn→gLe w (go fr w0):=fun fr w0 h0=>h0
 split
 all_goals first|exact h|trivial|exact hgo _ _ h|exact gLe.trans h (uZ _ _ _ _ _ _) |exact gLe.trans h (nk _ _ _) |exact gLe.trans h (JA _ _ _ _ _ _) |skip
 all_goals first|(refine tv (gLe.trans h (nk _ _ _)) ?_;exact h) |(split <;>first|exact h|trivial|exact hgo _ _ h)
theorem Mq (p:Program)(listen:Bool)(fr:Frame)(callers:List Frame)(dying:Option Dying)(w:World):gLe w (Go.stepG.oper p listen fr callers dying w):=by
 unfold Go.stepG.oper
 split
 ·trivial
 ·split
  ·exact qf _ _ _ _ _ _ _
  ·exact qf _ _ _ _ _ _ _
theorem FF {α:Type}{w:World}{o:Option α}{a:GStep}{f:α→GStep}(h1:gLe w a)(h2:∀ x,gLe w (f x)):gLe w (o.elim a f):=by cases o;exact h1;exact h2 _
theorem Mr (p:Program)(main listen:Bool)(fr:Frame)(callers:List Frame)(dying:Option Dying)(w:World):gLe w (Go.stepG.exec p main listen fr callers dying w):=by
 unfold Go.stepG.exec
 extract_lets go to lost leave
 have hgo:∀ fr w0,w.drawn≤w0.drawn→gLe w (go fr w0):=fun fr w0 h0=>h0
 have hto:∀ k,gLe w (to k):=fun k=>Nat.le_refl _
 have hlost:∀ m,gLe w (lost m):=fun _=>trivial
 have hleave:∀ j,gLe w (leave j):=fun j=>by
  show gLe w (match fr.roundOf with|none=>_|some l=>_)
  split
  ·refine tv (hgo _ _ (Nat.le_refl _)) trivial
  ·rcases h:(Instr.endRound _ j).runT p w #[]with⟨r,es⟩
   have h:=l9 h
   dsimp only
   refine gLe.after ?_
   split
   ·exact gLe.trans h (qe _ _ _ _ _ _ _)
   ·trivial
 have hgo1:∀ fr,gLe w (go fr w):=fun fr=>Nat.le_refl _
 clear_value to lost leave
 split
 all_goals first|exact hleave _|exact hto _|exact hlost _|trivial|exact FF (hleave _) hto|exact qf _ _ _ _ _ _ _|exact FF (hlost _) (fun _=>qf _ _ _ _ _ _ _) |skip
 ·split
  ·exact hto _
  ·exact hlost _
 ·rcases h:(Instr.enterLoop fr.fn fr.tmps _ _ _ fr.roundOf).runT p w #[]with⟨r,es⟩
  have h:=l9 h
  dsimp only
  refine gLe.after ?_
  split
  ·exact gLe.trans h (qf _ _ _ _ _ _ _)
  ·trivial
 ·rcases h:(Instr.endLoop _).runT p w #[]with⟨r,es⟩
  have h:=l9 h
  dsimp only
  refine gLe.after ?_
  split
  ·exact hgo _ _ h
  ·exact hgo _ _ h
  ·trivial
 ·refine tv (hto _) ?_
  split
  ·rename_i h;exact hgo _ _ (il h)
  ·trivial
 ·exact tv (Mq _ _ _ _ _ _) (hgo1 _)
theorem JB (p:Program)(main:Bool)(g:Goroutine)(w:World)(listen:Bool):gLe w (Go.stepG p main g w listen):=by
 unfold Go.stepG
 obtain⟨fr,callers,st,dying,off⟩:=g
 dsimp only
 split
 ·exact PG _ _ _ _
 ·exact Mr _ _ _ _ _ _ _
 ·exact G1 _ _ _ _ _ _
def sLe (w:World):Stepped→Prop
 | .next m=>w.drawn≤m.world.drawn
 | .ended .. =>True
theorem sLe.trans {w w':World}{s:Stepped}(h1:w.drawn≤w'.drawn)(h:sLe w' s):sLe w s:=by cases s <;>first|trivial|exact Nat.le_trans h1 h
theorem FG {c:Prop}[Decidable c]{w:World}{a b:Stepped}(h1:sLe w a)(h2:sLe w b):sLe w (if c then a else b):=by split <;>assumption
theorem FH (p:Program)(gs:Array Goroutine)(rest:Rest)(w:World):sLe w (look p gs rest w):=by
 unfold look
 split
 ·extract_lets
  refine FG trivial ?_
  split
  ·trivial
  ·extract_lets
   split
   ·rename_i h
    have h:=il h
    exact h
   ·trivial
   ·trivial
 ·trivial
theorem AT {rest:Rest}{cases:Array CommCase}{w w':World}(h:waitingAt rest cases w=some w'):w.drawn≤w'.drawn:=by
 unfold waitingAt at h
 split at h
 ·split at h
  ·cases h;exact Nat.le_refl _
  ·cases h
 ·cases h;exact Nat.le_refl _
theorem xJ (p:Program)(rest:Rest)(gs:Array Goroutine)(i:Nat)(g:Goroutine)(cases:Array CommCase)(bl:Bool)(shape:CommShape)(w:World):sLe w (communicate p rest gs i g cases bl shape w).1:=by
 unfold communicate
 extract_lets put illMade me other
 have hput:∀ g gs w0 ops,w.drawn≤w0.drawn→sLe w (put g gs w0 ops).1:=fun _ _ _ _ h=>h
 split
 ·trivial
 ·split
  ·split
   ·split
    ·rename_i h;exact AT h
    ·trivial
   ·exact hput _ _ _ _ (Nat.le_refl _)
  ·split
   ·trivial
   ·rename_i h
    have hw:=il h
    clear h
    extract_lets r
    split
    ·split
     ·rename_i h2;exact hput _ _ _ _ (Nat.le_trans hw (Jz h2))
     ·trivial
    ·exact hput _ _ _ _ hw
    ·exact hput _ _ _ _ hw
    ·extract_lets
     split
     ·exact hput _ _ _ _ hw
     ·split
      ·rename_i h2;have h3:=il h2;exact hput _ _ _ _ (Nat.le_trans hw h3)
      ·trivial
    ·exact hput _ _ _ _ hw
    ·exact hput _ _ _ _ hw
    ·trivial
theorem zu (m:Machine)(k:Nat)(t:Timer)(a b:Nat):m.world.drawn≤(retime m k t a b).2.world.drawn:=by
 unfold retime drain
 dsimp only
 repeat' split
 all_goals first|exact Nat.le_refl _|skip
 all_goals (simp_all;try omega)
theorem Eg {m m':Machine}{op:TimerOp}{v:Value}(h:timerOp m op=.ok (v,m')):m.world.drawn≤m'.world.drawn:=by
 have named:∀ (D:Nat) (m0:Machine) var f,(∀ k t,D≤(f k t).2.world.drawn)→timerOp.named m0 var f=.ok (v,m')→D≤m'.world.drawn:=fun D m0 var f hf h=>by
  unfold timerOp.named at h
  split at h
  ·injection h with h
   exact Nat.le_trans (hf _ _) (Nat.le_of_eq (congrArg (fun x:Value×Machine=>x.2.world.drawn) h))
  ·cases h
 unfold timerOp at h
 split at h
 ·split at h
  ·cases h;exact Nat.le_refl _
  ·split at h
   ·split at h
    ·cases h
    ·cases h;exact Nat.le_refl _
   ·cases h
 ·exact named _ _ _ _ (fun k t=>zu _ _ _ _ _) h
 ·split at h
  ·rename_i m1 ho
   have h1:m.world.drawn≤m1.world.drawn:=by
    unfold timerOp.opened at ho
    split at ho
    ·split at ho
     ·cases ho;exact Nat.le_refl _
     ·cases ho
    ·cases ho;exact Nat.le_refl _
   exact Nat.le_trans h1 (named m1.world.drawn _ _ _ (fun k t=>zu _ _ _ _ _) h)
  ·cases h
 ·cases h;exact Nat.le_refl _
theorem JD (p:Program)(m:Machine)(i:Nat)(listen:Bool):sLe m.world (Go.runT p m i listen).1:=by
 unfold Go.runT
 extract_lets rest world
 split
 extract_lets wake fn pos s ops done
 have hs:gLe m.world s:=JB _ _ _ _ _
 have hd:∀ r,(done r).1=r:=fun r=>rfl
 clear_value s done
 split
 all_goals try rw[hd]
 ·trivial
 ·split
  rename_i h
  have:=xJ p rest ‹_› i ‹_› ‹_› ‹_› ‹_› ‹_›
  rw[h]at this
  exact sLe.trans hs this
 ·exact hs
 ·exact hs
 ·exact FG trivial hs
 ·exact hs
 ·exact sLe.trans hs (FH _ _ _ _)
 ·exact hs
 ·exact hs
 ·split
  ·exact hs
  ·split
   ·rename_i h
    simp only[endThrow,dieOf]at h
    cases h
    exact hs
   ·trivial
  ·trivial
 ·split
  ·rename_i h;exact Nat.le_trans hs (Eg h)
  ·exact hs
  ·trivial
  ·trivial
theorem JE (p:Program)(m:Machine)(k:Nat):sLe m.world (serve p m k):=by
 unfold serve
 split
 ·trivial
 ·exact Nat.le_refl _
 ·extract_lets
  split
  ·trivial
  ·exact Nat.le_refl _
def mLe (w:World):Move→Prop
 | .goroutine m _=>w.drawn≤m.world.drawn
 | .machine s _=>sLe w s
theorem mLe.trans {w w':World}{s:Move}(h1:w.drawn≤w'.drawn)(h:mLe w' s):mLe w s:=by
 cases s
 ·exact Nat.le_trans h1 h
 ·exact sLe.trans h1 h
theorem xK (p:Program)(m:Machine):mLe m.world (askOn p m):=by
 unfold askOn
 extract_lets mono rs ds pick
 have hpick:∀ m0:Machine,m.world.drawn≤m0.world.drawn→mLe m.world (pick m0):=fun m0 h0=>by
  show mLe m.world (match (choose (.sched rs.length)).run p m0.world with| .halt _ w=>_| .ok k world=>_)
  split
  ·trivial
  ·rename_i h
   have h1:=il h
   split
   ·exact Nat.le_trans h0 h1
   ·split
    ·trivial
    ·rename_i h2
     have h2:=il h2
     exact Nat.le_trans h0 (Nat.le_trans h1 h2)
 clear_value pick rs ds
 split
 ·trivial
 ·rename_i h
  have hw:=il h
  clear h
  extract_lets m1
  split
  ·exact sLe.trans hw (JE p _ _)
  ·cases rs with
   |nil=>
    dsimp only
    split
    ·exact hw
    ·split
     ·exact hw
     ·split <;>trivial
   |cons r rs=>
    dsimp only
    split
    ·exact hpick _ hw
    ·split
     ·trivial
     ·rename_i h;have h2:=il h;exact hpick _ (Nat.le_trans hw h2)
     ·rename_i h;have h2:=il h;exact Nat.le_trans hw h2
     ·rename_i h;have h2:=il h;exact hpick _ (Nat.le_trans hw h2)
theorem CE (p:Program)(m:Machine):mLe m.world (ask p m):=by
 unfold ask
 split
 ·split
  ·trivial
  ·rename_i h
   have hw:=il h
   have:=FH p m.gs m.rest ‹World›
   split
   ·rename_i m2 h2
    rw[h2]at this
    exact mLe.trans (Nat.le_trans hw this) (xK p _)
   ·rename_i e h2
    exact sLe.trans hw this
  ·rename_i h
   have hw:=il h
   exact mLe.trans hw (xK p _)
 ·exact xK p m
theorem Ms (p:Program)(m:Machine):mLe m.world (move p m):=by
 unfold move
 split
 ·split
  ·exact Nat.le_refl _
  ·trivial
 ·split
  ·split
   ·exact Nat.le_refl _
   ·exact CE p _
  ·exact CE p m
theorem Mt (p:Program)(m:Machine):sLe m.world (step p m):=by
 unfold step stepT
 have:=Ms p m
 split
 ·rename_i h
  rw[h]at this
  exact sLe.trans this (JD p _ _ _)
 ·rename_i h
  rw[h]at this
  exact this
theorem CF {p:Program}{m m':Machine}(h:Steps p m m'):m.world.drawn≤m'.world.drawn:=by
 obtain⟨n,hn⟩:=h
 induction n generalizing m with
 |zero=>simp only[runN,Stepped.next.injEq]at hn;subst hn;exact Nat.le_refl _
 |succ n ih=>
  simp only[runN]at hn
  have:=Mt p m
  cases hs:step p m with
  |next m1=>
   rw[hs]at hn this
   exact Nat.le_trans this (ih hn)
  |ended o w=>rw[hs]at hn;cases hn
theorem CG {P:Program}{f:FuncId}{args:Array Value}{w:World}{R:Ending→World→Prop}(h:Calls P f args w R):Calls P f args w fun e w'=>R e w'∧(e≠ .outgrown→w.drawn≤w'.drawn):=by
 intro cs
 obtain⟨e,w',fr,hr,hc,hf,hl⟩:=h cs
 refine⟨e,w',fr,⟨hr,fun hne=>?_⟩,hc,hf,hl⟩
 cases e with
 |returned v=>exact CF (p:=P) hc
 |panicked c=>exact CF (p:=P) hc
 |outgrown=>exact absurd rfl hne
end Go.Sx
end
section
namespace Go.Sx
open Go.RowKit Go.Shelf Go.Lib Go.Sort Go.Proofs
def NC:SV→Value
 | .v x=>x
 |_=>undef
def lL (k:Tag)(x:k.T):List Value:=(cellsOf k x).map NC
def uu (k:Tag):Prop:= ∀ (x:k.T) (s:SV),s∈cellsOf k x→∃ v,s=.v v∧v.oneCell'=true
def srt {α:Type}(cf:α→α→Int)(l:List α):List α:=l.mergeSort fun x y=>!(ltOf cf y x)
def apart {α:Type}(cf:α→α→Int)(l:List α):Prop:= ∀ x∈l,∀ y∈l,ltOf cf x y=false→ltOf cf y x=false→x=y
theorem Eh {α:Type}[Inhabited α]{cf:α→α→Int}(hO:SWO (ltOf cf)){l:List α}(h:apart cf l){d':Array α}(hp:PermIn 0 l.toArray.size l.toArray d')(hs:SortedIn (ltOf cf) 0 l.toArray.size d'):d'=(srt cf l).toArray:=by
 obtain⟨hsz,_,hperm⟩:=hp
 have e1:d'.extract 0 l.toArray.size=d':=by rw[←hsz];exact Array.extract_size
 rw[e1,Array.extract_size]at hperm
 have hperm:d'.toList.Perm l:=by simpa using hperm
 have:d'.toList=srt cf l:=by
  refine List.Perm.eq_of_pairwise (le:=fun x y=>(!ltOf cf y x)=true) ?_ ?_ ?_ (hperm.trans (List.mergeSort_perm _ _).symm)
  ·intro a b ha hb h1 h2
   simp only[Bool.not_eq_true']at h1 h2
   exact h a (hperm.subset ha) b ((List.mergeSort_perm _ _).subset hb) h2 h1
  ·rw[List.pairwise_iff_getElem]
   intro i j hi hj hij
   have:=hs i j (Nat.zero_le _) hij (by simp only[List.size_toArray]at hsz ⊢;simp only[Array.length_toList]at hj;omega)
   simp only[Array.length_toList]at hi hj
   rw[getElem!_pos d' i hi,getElem!_pos d' j hj]at this
   simpa using this
  ·refine List.pairwise_mergeSort (fun a b c h1 h2=>?_) (fun a b=>?_) l
   ·simp only[Bool.not_eq_true']at h1 h2 ⊢
    exact hO.ntrans c b a h2 h1
   ·simp only[Bool.or_eq_true,Bool.not_eq_true']
    cases h1:ltOf cf b a with
    |false=>exact .inl rfl
    |true=>
     right
     cases h2:ltOf cf a b with
     |false=>rfl
     |true=>
      have h3:=hO.trans a b a h2 h1
      rw[hO.irrefl]at h3;cases h3
 rw[←this]
section
variable {P:Program}{ρ:Ren}{F:Nat→Prop}{own:Own}{w:World}{k:Tag}
theorem zv (hk:uu k){l:List k.T}{o:Nat}{cs:Array Value}(h:RowAt F own w k l o cs){i j:Nat}(hi:i<l.length)(hj:j<aa k):cs[o+i*aa k+j]? =(lL k l[i])[j]?:=by
 have e1:=List.getElem?_eq_getElem hi
 have hlen:j< (cellsOf k l[i]).length:=by rw[aW];exact hj
 have e2:=List.getElem?_eq_getElem hlen
 obtain⟨u,h1,h2⟩:=h i _ e1 j _ e2
 obtain⟨v,h3,_⟩:=hk l[i] _ (List.getElem_mem hlen)
 rw[h1]
 unfold lL
 rw[List.getElem?_map,e2]
 rw[h3]at h2 ⊢
 rw[bR h2]
 rfl
theorem zw (hk:uu k){l:List k.T}{o:Nat}{cs:Array Value}(h:∀ i j,(hi:i<l.length)→j<aa k→cs[o+i*aa k+j]? =(lL k l[i])[j]?):RowAt F own w k l o cs:=by
 intro i x hi j s hj
 obtain⟨hl,rfl⟩:=List.getElem?_eq_some_iff.1 hi
 have hlen:=(List.getElem?_eq_some_iff.1 hj).1
 rw[aW]at hlen
 have:=h i j hl hlen
 unfold lL at this
 rw[List.getElem?_map,hj]at this
 obtain⟨v,h3,_⟩:=hk _ s (List.mem_of_getElem? hj)
 subst h3
 exact⟨v,this,.v v⟩
theorem Mu {w w':World}(hb:Go.RowKit.Below w.heap.size w w')(hd:w.drawn≤w'.drawn):∃ q os,w'=grow (w.drewN q) os:=by
 refine⟨w'.drawn - w.drawn,w'.heap.extract w.heap.size w'.heap.size,?_⟩
 obtain⟨h1,h2,h3,h4,h5⟩:=hb
 obtain⟨heap,tape,drawn,os,output⟩:=w
 obtain⟨heap',tape',drawn',os',output'⟩:=w'
 simp only at h1 h2 h3 h4 h5 hd
 subst h1;subst h2;subst h3
 unfold grow World.drewN
 simp only[World.mk.injEq,true_and,and_true]
 refine⟨?_,by omega⟩
 apply Array.ext
 ·simp;omega
 ·intro i hi1 hi2
  by_cases hi:i<heap.size
  ·rw[Array.getElem_append_left hi]
   have:=h5 i hi
   rw[Array.getElem?_eq_getElem hi1,Array.getElem?_eq_getElem hi]at this
   exact Option.some.inj this
  ·rw[Array.getElem_append_right (by omega)]
   simp only[Array.getElem_extract]
   congr 1;omega
end
end Go.Sx
end
section
namespace Go.Sx
open Go.Proofs
set_option maxRecDepth 100000
def hrs (a b:Int):List Int:=(List.range (b+1 - a).toNat).map fun k:Nat=>a+(k:Int)
theorem Mv {a b:Int}(h:b<a):hrs a b=[]:=by unfold hrs;rw[show(b+1 - a).toNat=0 by omega];rfl
theorem CH {a b:Int}(h:a≤b+1):hrs a (b+1)=hrs a b++[b+1]:=by
 unfold hrs
 rw[show(b+1+1 - a).toNat=(b+1 - a).toNat+1 by omega,List.range_succ,List.map_append,List.map_singleton,show a+(((b+1 - a).toNat:Nat):Int)=b+1 by omega]
theorem AU {a b x:Int}:x∈hrs a b↔a≤x∧x≤b:=by
 unfold hrs
 rw[List.mem_map]
 constructor
 ·rintro⟨k,hk,rfl⟩;rw[List.mem_range]at hk;omega
 ·rintro⟨h1,h2⟩;exact⟨(x - a).toNat,by rw[List.mem_range];omega,by omega⟩
theorem PH (a b:Int):(hrs a b).Pairwise (· < ·):=by
 unfold hrs
 rw[List.pairwise_map]
 exact List.pairwise_lt_range.imp fun h=>by omega
theorem Mw (a b:Int):(hrs a b).length=(b+1 - a).toNat:=by unfold hrs;simp
theorem Mx {α β:Type}{R:β→β→Prop}{S:α→α→Prop}{f:α→List β}{l:List α}(h0:l.Pairwise S)(h1:∀ a∈l,(f a).Pairwise R)(h2:∀ a∈l,∀ b∈l,S a b→∀ x∈f a,∀ y∈f b,R x y):(l.flatMap f).Pairwise R:=by
 rw[List.pairwise_flatMap]
 refine⟨h1,?_⟩
 exact h0.imp_of_mem fun {a b} ha hb hs=>h2 a ha b hb hs
theorem G3 {α β:Type}{f g:α→List β}{l:List α}(h:∀ a∈l,(f a).Perm (g a)):(l.flatMap f).Perm (l.flatMap g):=by
 induction l with
 |nil=>exact List.Perm.refl _
 |cons a l ih=>
  rw[List.flatMap_cons,List.flatMap_cons]
  exact(h a (by simp)).append (ih fun b hb=>h b (by simp[hb]))
open Go.Shelf Go.Sort in
theorem Ei {α:Type}{cf:α→α→Int}(hO:SWO (ltOf cf)){s m:List α}(hp:s.Perm m)(hm:m.Pairwise fun x y=>cf x y<0):apart cf s∧srt cf s=m:=by
 have e1:∀ x y,ltOf cf x y=true↔cf x y<0:=fun x y=>by unfold ltOf;rw[decide_eq_true_eq]
 have hex:∀ x∈m,∀ y∈m,ltOf cf x y=false→ltOf cf y x=false→x=y:=fun x hx y hy h1 h2=>by
  obtain⟨i,hi,rfl⟩:=List.mem_iff_getElem.1 hx
  obtain⟨j,hj,rfl⟩:=List.mem_iff_getElem.1 hy
  rw[List.pairwise_iff_getElem]at hm
  rcases Nat.lt_trichotomy i j with h|h|h
  ·rw[(e1 _ _).2 (hm i j hi hj h)]at h1;cases h1
  ·subst h;rfl
  ·rw[(e1 _ _).2 (hm j i hj hi h)]at h2;cases h2
 refine⟨fun x hx y hy h1 h2=>hex x (hp.subset hx) y (hp.subset hy) h1 h2,?_⟩
 unfold srt
 have hq:(s.mergeSort fun x y=>!(ltOf cf y x)).Perm m:=(List.mergeSort_perm _ _).trans hp
 refine List.Perm.eq_of_pairwise (le:=fun x y=>(!ltOf cf y x)=true) ?_ ?_ ?_ hq
 ·intro x y hx hy h1 h2
  simp only[Bool.not_eq_true']at h1 h2
  exact hex x (hq.subset hx) y hy h2 h1
 ·refine List.pairwise_mergeSort ?_ ?_ s
  ·intro a b c h1 h2
   simp only[Bool.not_eq_true']at h1 h2 ⊢
   exact hO.3 c b a h2 h1
  ·intro a b
   simp only[Bool.or_eq_true,Bool.not_eq_true']
   cases h1:ltOf cf b a with
   |false=>exact .inl rfl
   |true=>
    right
    cases h2:ltOf cf a b with
    |false=>rfl
    |true=>have:=hO.2 _ _ _ h1 h2;rw[hO.1]at this;cases this
 ·refine hm.imp fun {a b} hab=>?_
  simp only[Bool.not_eq_true']
  cases h2:ltOf cf b a with
  |false=>rfl
  |true=>have:=hO.2 _ _ _ ((e1 _ _).2 hab) h2;rw[hO.1]at this;cases this
end Go.Sx
end
section
namespace Go.Sx
open Go.Proofs
set_option maxRecDepth 100000
set_option linter.unusedSimpArgs false
def dc (x:Deed)(n:Int)(m_:List (RegisterTitle×Int)):List (RegisterTitle×Int):=(e_ .registerTitle .int m_ ({ right:=x.right,farm:=x.to}:RegisterTitle) (IntKind.i64.wrap ((bY .registerTitle .int m_ ({ right:=x.right,farm:=x.to}:RegisterTitle))+n)))
noncomputable def im:List SV→List Ob→Option HCon:=gK (fun x_:Deed×Int×(List (RegisterTitle×Int)) =>[.os 0,.agg (cellsOf .deed x_.1),.v (.int .i64 x_.2.1)]) (fun x_=>[.mp .registerTitle .int x_.2.2 none]) (fun x_=>eK True (.tup []) [.mp .registerTitle .int (dc x_.1 x_.2.1 x_.2.2) none])
@[go_sem] theorem zx (x:Deed)(n:Int)(m_:List (RegisterTitle×Int)){p0_:Option (Nat×Option Tag.registerTitle.T)}(hp0_:p0_=none):im ([.os 0,.agg [.v (.int .i64 x.no),.v (.int .i64 x.kind),.v (.int .i64 x.right),.v (.int .i64 x.since),.v (.int .i64 x.to),.rs .part x.parts,.v (.int .i64 x.of_),.v (.int .i64 x.at_),.v (.int .i64 x.known)],.v (.int .i64 n)]) ([.mp .registerTitle .int m_ p0_])=some (eK True (.tup []) [.mp .registerTitle .int (dc x n m_) none]):=by
 subst hp0_;exact eX (A:=fun x_:Deed×Int×(List (RegisterTitle×Int)) =>[.os 0,.agg (cellsOf .deed x_.1),.v (.int .i64 x_.2.1)]) (H:=fun x_=>[.mp .registerTitle .int x_.2.2 none]) (K:=fun x_=>eK True (.tup []) [.mp .registerTitle .int (dc x_.1 x_.2.1 x_.2.2) none]) (x:=(x,n,m_))
theorem o9:FnOkO Tryz.prog 103 (im):=by
 have hG:ConsOk Tryz.prog (mkG [] []):=aw cg0 cg0
 refine fQ mixed am hG (fn:=Tryz.f103) (c:=ae Tryz.f103) (by kernel_rfl) (by kernel_rfl) (by kernel_rfl) (by kernel_rfl) fun l o con h=>?_
 obtain⟨⟨x,n,m_⟩,rfl,rfl,rfl⟩:=dJ h
 clear h
 try dsimp only
 refine⟨_,_,_,rfl,fun hp=>?_⟩
 refine⟨Nat.le_of_ble_eq_true rfl,L0,?_,?_⟩
 ·unfold ae Tryz.f103
  simp only[al,and_self,true_and,and_true]
 ·unfold ae Tryz.f103
  try unfold dc
  simp only[go_sem,Nat.reduceBEq,Nat.reduceLeDiff,Nat.reduceLT,decide_true,Nat.reduceAdd,Nat.reduceSub,Nat.reduceMul,Int.reduceLE,Int.reduceLT,Int.reduceToNat,Int.reduceNeg,reduceCtorEq]
  all_goals exact fR
@[go_sem] def br (x:Deed)(n:Int)(k_0:Nat)(s_0:List (RegisterTitle×Int)×Int):Empty⊕(List (RegisterTitle×Int)×Int):=.inr ((e_ .registerTitle .int s_0.1 ({ right:=x.right,farm:=(x.parts.getD k_0 (default:Part)).farm}:RegisterTitle) (IntKind.i64.wrap ((bY .registerTitle .int s_0.1 ({ right:=x.right,farm:=(x.parts.getD k_0 (default:Part)).farm}:RegisterTitle))+(eA ((x.parts.getD k_0 (default:Part)).share) n).1))),(IntKind.i64.wrap (s_0.2 - (eA ((x.parts.getD k_0 (default:Part)).share) n).1)))
@[go_sem] def eQ (x:Deed)(s_0:List (RegisterTitle×Int)×Int)(k_1:Nat)(s_1:List (RegisterTitle×Int)):Empty⊕(List (RegisterTitle×Int)):=.inr (e_ .registerTitle .int s_1 ({ right:=x.right,farm:=(((x.parts.take (Int.toNat s_0.2)).drop 0).getD k_1 (default:Part)).farm}:RegisterTitle) (IntKind.i64.wrap ((bY .registerTitle .int s_1 ({ right:=x.right,farm:=(((x.parts.take (Int.toNat s_0.2)).drop 0).getD k_1 (default:Part)).farm}:RegisterTitle))+1)))
def ca (x:Deed)(n:Int)(m_:List (RegisterTitle×Int)):List (RegisterTitle×Int):=(match an (br x n) x.parts.length 0 (m_,n)with| .inl x=>x.elim| .inr s_0=>(match an (eQ x s_0) (((x.parts.take (Int.toNat s_0.2)).drop 0).length) 0 s_0.1 with| .inl x=>x.elim| .inr s_1=>s_1))
def dD (x:Deed)(n:Int)(m_:List (RegisterTitle×Int)):Prop:=(x.parts.length≤bp→(∀ s_0,an (br x n) x.parts.length 0 (m_,n)=.inr s_0→(0≤0∧0≤s_0.2∧s_0.2≤(x.parts.length:Int))))
noncomputable def gN:List SV→List Ob→Option HCon:=gK (fun x_:Deed×Int×(List (RegisterTitle×Int)) =>[.os 0,.agg (cellsOf .deed x_.1),.v (.int .i64 x_.2.1)]) (fun x_=>[.mp .registerTitle .int x_.2.2 none]) (fun x_=>eK (dD x_.1 x_.2.1 x_.2.2) (.tup []) [.mp .registerTitle .int (ca x_.1 x_.2.1 x_.2.2) none])
@[go_sem] theorem yD (x:Deed)(n:Int)(m_:List (RegisterTitle×Int)){p0_:Option (Nat×Option Tag.registerTitle.T)}(hp0_:p0_=none):gN ([.os 0,.agg [.v (.int .i64 x.no),.v (.int .i64 x.kind),.v (.int .i64 x.right),.v (.int .i64 x.since),.v (.int .i64 x.to),.rs .part x.parts,.v (.int .i64 x.of_),.v (.int .i64 x.at_),.v (.int .i64 x.known)],.v (.int .i64 n)]) ([.mp .registerTitle .int m_ p0_])=some (eK (dD x n m_) (.tup []) [.mp .registerTitle .int (ca x n m_) none]):=by
 subst hp0_;exact eX (A:=fun x_:Deed×Int×(List (RegisterTitle×Int)) =>[.os 0,.agg (cellsOf .deed x_.1),.v (.int .i64 x_.2.1)]) (H:=fun x_=>[.mp .registerTitle .int x_.2.2 none]) (K:=fun x_=>eK (dD x_.1 x_.2.1 x_.2.2) (.tup []) [.mp .registerTitle .int (ca x_.1 x_.2.1 x_.2.2) none]) (x:=(x,n,m_))
theorem oH:FnOkO Tryz.prog 104 (gN):=by
 have hG:ConsOk Tryz.prog (mkG [(138,rj)] []):=aw (cgc xu cg0) cg0
 refine fQ mixed am hG (fn:=Tryz.f104) (c:=ae Tryz.f104) (by kernel_rfl) (by kernel_rfl) (by kernel_rfl) (by kernel_rfl) fun l o con h=>?_
 obtain⟨⟨x,n,m_⟩,rfl,rfl,rfl⟩:=dJ h
 clear h
 try dsimp only
 refine⟨_,_,_,rfl,fun hp=>?_⟩
 unfold dD at hp
 refine⟨Nat.le_of_ble_eq_true rfl,(fun id st=>bif Nat.beq id 0 then some (LCR (ρ:=Empty) (σ:=(List (RegisterTitle×Int)×Int)) 2 [] [0,1] (fun k_0 s_0=>⟨[(0,.os 0),(2,.v (.int .i64 n)),(4,.ptr 1 0),(6,.v (.int .i64 s_0.2)),(16,.rs .part x.parts),(17,.v (.int .i64 (x.parts.length:Int))),(18,.v (.int .i64 (k_0:Int)))],[.mp .registerTitle .int s_0.1 none,.cells (cellsOf .deed x)]⟩) (br x n) pT x.parts.length (m_,n) (x.parts.length≤bp) ((·.elim)) ((·.elim)) st)else bif Nat.beq id 2 then some (LCR (ρ:=Empty) (σ:=(List (RegisterTitle×Int))) 2 [] [0,1] (fun k_1 s_1=>⟨[(0,.os 0),(4,.ptr 1 0),(48,.rs .part ((x.parts.take (Int.toNat (bE (an (br x n) x.parts.length 0 (m_,n))).2)).drop 0)),(49,.v (.int .i64 (((x.parts.take (Int.toNat (bE (an (br x n) x.parts.length 0 (m_,n))).2)).drop 0).length:Int))),(50,.v (.int .i64 (k_1:Int)))],[.mp .registerTitle .int s_1 none,.cells (cellsOf .deed x)]⟩) (eQ x (bE (an (br x n) x.parts.length 0 (m_,n)))) pT (((x.parts.take (Int.toNat (bE (an (br x n) x.parts.length 0 (m_,n))).2)).drop 0).length) ((bE (an (br x n) x.parts.length 0 (m_,n))).1) (((x.parts.take (Int.toNat (bE (an (br x n) x.parts.length 0 (m_,n))).2)).drop 0).length≤bp) ((·.elim)) ((·.elim)) st)else none),?_,?_⟩
 ·unfold ae Tryz.f104
  simp only[al,true_and,and_true,and_assoc]
  refine⟨?_,?_⟩
  ·refine dy mixed am hG (by kernel_rfl) (fun _=>rfl) (x.parts.length:Int) rfl iS (fun hb0 k_0 s_0 hlt0 _ hw hc=>⟨L0,ah _,?_⟩) (fun hb0 s_0 hc=>?_)
   ·exact xy
   ·exact xz
  ·refine dy mixed am hG (by kernel_rfl) (fun _=>rfl) (((x.parts.take (Int.toNat (bE (an (br x n) x.parts.length 0 (m_,n))).2)).drop 0).length:Int) rfl iS (fun hb1 k_1 s_1 hlt1 _ hw hc=>⟨L0,ah _,?_⟩) (fun hb1 s_1 hc=>?_)
   ·exact xy
   ·exact xz
 ·unfold ae Tryz.f104
  try unfold ca
  simp only[go_sem,Nat.reduceBEq,Nat.reduceLeDiff,Nat.reduceLT,decide_true,Nat.reduceAdd,Nat.reduceSub,Nat.reduceMul,Int.reduceLE,Int.reduceLT,Int.reduceToNat,Int.reduceNeg,reduceCtorEq]
  all_goals exact fR
def qN (x:Deed)(n:Int)(m_:List (RegisterTitle×Int)):Unit:=()
noncomputable def gO:List SV→List Ob→Option HCon:=gK (fun x_:Deed×Int×(List (RegisterTitle×Int)) =>[.os 0,.agg (cellsOf .deed x_.1),.v (.int .i64 x_.2.1)]) (fun x_=>[.mp .registerTitle .int x_.2.2 none]) (fun x_=>eK True (.tup []) [.mp .registerTitle .int x_.2.2 none])
@[go_sem] theorem yE (x:Deed)(n:Int)(m_:List (RegisterTitle×Int)){p0_:Option (Nat×Option Tag.registerTitle.T)}(hp0_:p0_=none):gO ([.os 0,.agg [.v (.int .i64 x.no),.v (.int .i64 x.kind),.v (.int .i64 x.right),.v (.int .i64 x.since),.v (.int .i64 x.to),.rs .part x.parts,.v (.int .i64 x.of_),.v (.int .i64 x.at_),.v (.int .i64 x.known)],.v (.int .i64 n)]) ([.mp .registerTitle .int m_ p0_])=some (eK True (.tup []) [.mp .registerTitle .int m_ none]):=by
 subst hp0_;exact eX (A:=fun x_:Deed×Int×(List (RegisterTitle×Int)) =>[.os 0,.agg (cellsOf .deed x_.1),.v (.int .i64 x_.2.1)]) (H:=fun x_=>[.mp .registerTitle .int x_.2.2 none]) (K:=fun x_=>eK True (.tup []) [.mp .registerTitle .int x_.2.2 none]) (x:=(x,n,m_))
theorem oI:FnOkO Tryz.prog 105 (gO):=by
 have hG:ConsOk Tryz.prog (mkG [] []):=aw cg0 cg0
 refine fQ mixed am hG (fn:=Tryz.f105) (c:=ae Tryz.f105) (by kernel_rfl) (by kernel_rfl) (by kernel_rfl) (by kernel_rfl) fun l o con h=>?_
 obtain⟨⟨x,n,m_⟩,rfl,rfl,rfl⟩:=dJ h
 clear h
 try dsimp only
 refine⟨_,_,_,rfl,fun hp=>?_⟩
 refine⟨Nat.le_of_ble_eq_true rfl,L0,?_,?_⟩
 ·unfold ae Tryz.f105
  simp only[al,and_self,true_and,and_true]
 ·unfold ae Tryz.f105
  try unfold qN
  simp only[go_sem,Nat.reduceBEq,Nat.reduceLeDiff,Nat.reduceLT,decide_true,Nat.reduceAdd,Nat.reduceSub,Nat.reduceMul,Int.reduceLE,Int.reduceLT,Int.reduceToNat,Int.reduceNeg,reduceCtorEq]
  all_goals exact fR
end Go.Sx
end
section
namespace Go.Sx
open Go.RowKit Go.Shelf Go.Lib Go.Sort Go.Proofs
open Classical in
noncomputable def kv (k:Tag)(g:FuncId)(caps:List SV)(cf:k.T→k.T→Int):List SV→List Ob→Option HCon:=fun l h=>
 D_ k (fun l0=>if l=[.os 0,.fn g [] caps]then some (eK (apart cf l0) (.tup []) [.row k (srt cf l0)])else none) h
@[go_sem] theorem rA {k:Tag}{g:FuncId}{caps:List SV}{cf:k.T→k.T→Int}{l0:List k.T}:kv k g caps cf [.os 0,.fn g [] caps] [.row k l0]=some (eK (apart cf l0) (.tup []) [.row k (srt cf l0)]):=by
 simp[kv,D_]
section
variable {P:Program}{ρ:Ren}{k:Tag}
theorem JF {w:World}{b:Nat}{cs:Array Value}{ty:TypeId}(hb:w.heap[b]? =some (.cells cs ty (0,0)))(D:Array Value)(o:Nat):(putRow id w b o D).heap[b]? =some (.cells (putCells id o D cs) ty (0,0)):=by
 unfold putRow mapBlock
 simp only[Array.getElem?_modify,if_true,hb]
 rfl
theorem CI {w:World}{b c:Nat}(hc:c≠b)(D:Array Value)(o:Nat):(putRow id w b o D).heap[c]? =w.heap[c]?:=by
 unfold putRow mapBlock
 simp only[Array.getElem?_modify]
 rw[if_neg (fun e=>hc e.symm)]
theorem AV {D cs:Array Value}{o t:Nat}(ht:t<D.size)(hs:o+t<cs.size):(putCells id o D cs)[o+t]? =D[t]?:=by
 unfold putCells
 rw[Array.getElem?_mapIdx,Array.getElem?_eq_getElem hs]
 simp only[Option.map_some]
 rw[if_pos (by omega),Array.getElem?_eq_getElem ht]
 have:o+t - o=t:=by omega
 rw[this,getElem!_pos D t ht]
 rfl
theorem CJ {α:Type}[Inhabited α]{enc:α→List Value}{n:Nat}(hn:∀ x,(enc x).length=n){d:Array α}{i j:Nat}(hi:i<d.size)(hj:j<n):(flatK enc n d)[i*n+j]? =(enc d[i]!)[j]?:=by
 have hlt:i*n+j<d.size*n:=by
  have:=Nat.mul_le_mul_right n (show i+1≤d.size from hi)
  rw[Nat.succ_mul]at this;omega
 have h1:i*n+j< (flatK enc n d).size:=by rw[size_flatK];exact hlt
 rw[Array.getElem?_eq_getElem h1,←getElem!_pos (flatK enc n d) _ h1,get_flatK enc n d _ hlt]
 have hd:(i*n+j) / n=i:=by
  rw[Nat.mul_comm,Nat.mul_add_div (by omega),Nat.div_eq_of_lt hj];omega
 have hm:(i*n+j) % n=j:=by
  rw[Nat.mul_comm,Nat.mul_add_mod,Nat.mod_eq_of_lt hj]
 rw[hd,hm]
 have hj':j< (enc d[i]!).length:=by rw[hn];exact hj
 rw[List.getElem?_eq_getElem hj',getElem!_pos (enc d[i]!) j hj']
theorem sw_b {α:Type}[Inhabited α]{enc:α→List Value}{n b o m:Nat}{w:World}{cs:Array Value}{ty:TypeId}(hb:w.heap[b]? =some (.cells cs ty (0,0)))(d:Array α)(os:Array Obj):(sortWorldK enc n w b o m d os).heap[b]? =some (.cells (putCells id o (flatK enc n d) cs) ty (0,0)):=by
 have hlt:b<w.heap.size:=(Array.getElem?_eq_some_iff.1 hb).1
 unfold sortWorldK grow
 simp only
 rw[Array.getElem?_append_left (by unfold putRowK putRow mapBlock Sort.ahead;simpa using hlt)]
 exact JF (w:=Sort.ahead w m) hb _ _
theorem ND {α:Type}[Inhabited α]{enc:α→List Value}{n b o m c:Nat}{w:World}(hc:c<w.heap.size)(hne:c≠b)(d:Array α)(os:Array Obj):(sortWorldK enc n w b o m d os).heap[c]? =w.heap[c]?:=by
 unfold sortWorldK grow
 simp only
 rw[Array.getElem?_append_left (by unfold putRowK putRow mapBlock Sort.ahead;simpa using hc)]
 exact CI (w:=Sort.ahead w m) hne _ _
theorem AW {α:Type}[Inhabited α]{enc:α→List Value}{n b o m:Nat}{w:World}(d:Array α)(os:Array Obj):w.heap.size≤(sortWorldK enc n w b o m d os).heap.size:=by
 unfold sortWorldK grow putRowK putRow mapBlock Sort.ahead
 simp
theorem u0 (L:SlLaysF0.n6 P ρ)(aE:∀ w,(isAgg (ρ.t 24)).run P w=.ok true w)(zE:∀ w,(Go.sizeOf (ρ.t 24)).run P w=.ok (aa k) w)(hk:uu k)(h0:0<aa k){g:FuncId}{caps:List SV}{C:List SV→Option Con}(hC:FnOk P g C){cf:k.T→k.T→Int}
  (hcf:∀ x y,C (.agg (cellsOf k x):: .agg (cellsOf k y)::caps)=some (.det True (.v (.int .i64 (cf x y))))) (hO:SWO (ltOf cf)) (hpf:∀ s∈caps,PF s) (hcf0:∃ x y,C (.agg (cellsOf k x):: .agg (cellsOf k y)::caps)=some (.det True (.v (.int .i64 (cf x y))))):FnOkO P (ρ.f 6) (kv k g caps cf):=by
 haveI:Inhabited k.T:=⟨cV k⟩
 refine⟨fun l h c hc args w=>L.f6.enters rfl args w,fun l h c hc hp F own w vs hHp hvs=>?_⟩
 unfold kv at hc
 obtain⟨l0,hh,hK⟩:=Cd hc
 clear hc
 subst hh
 by_cases hl:l=[.os 0,.fn g [] caps]
 rotate_left
 ·rw[if_neg hl]at hK;cases hK
 rw[if_pos hl]at hK
 subst hl
 cases hK
 have hp:apart cf l0:=hp
 obtain⟨hsz,hrel⟩:=hvs
 have r0:=hrel 0 _ rfl
 have r1:=hrel 1 _ rfl
 have hvs2:vs= #[vs.getD 0 undef,vs.getD 1 undef]:=by
  apply Array.ext
  ·simpa using hsz
  ·intro i h1 h2
   simp only[List.length_cons,List.length_nil]at hsz
   match i,h1,h2 with
   |0,h1,_=>simp[Array.getD,h1]
   |1,h1,_=>simp[Array.getD,h1]
   |i+2,h1,_=>omega
 generalize vs.getD 0 undef=v0 at r0 hvs2
 generalize vs.getD 1 undef=v1 at r1 hvs2
 subst hvs2
 obtain⟨hd,o0,rfl,_⟩:=fa r0
 obtain⟨hd',o0',hrow⟩:=hHp.at (id:=0) (o:=.row k l0) rfl rfl
 rw[o0]at o0'
 cases o0'
 have hrow:RowRel F own w k l0 hd.v hd.bs:=hrow
 cases r1 with
 | @fn _ _ _ us cs s1 s2 c1 c2=>
 have hus:us= #[]:=Array.eq_empty_of_size_eq_zero (by simpa using s1)
 subst hus
 rcases hrow with⟨a,e1,rfl,e2⟩ | ⟨b,o,cap,cells,ty,e1,e2,e3,e4,e5,e6,e7⟩
 ·rw[e1]
  refine(AnyF.slices_SortFunc_none L a 0 _ w).mono fun e w' he=>?_
  obtain⟨rfl,rfl⟩:=he
  refine⟨(),own,trivial,⟨_,rfl,.tup rfl fun j s hj=>by simp at hj⟩,?_,Fr.refl _,Nat.le_refl _⟩
  have:srt cf ([]:List k.T)=[]:=by simp[srt]
  rw[this]
  exact hHp
 ·have hbown:b∈hd.bs:=by rw[e2];simp
  have hbw:b<w.heap.size:=hHp.lt 0 hd b o0 hbown
  have hkl:∀ x:k.T,(lL k x).length=aa k:=fun x=>by unfold lL;rw[List.length_map,aW]
  have hone:∀ x:k.T,∀ v∈lL k x,v.oneCell'=true:=fun x v hv=>by
   unfold lL at hv
   rw[List.mem_map]at hv
   obtain⟨s,hs,rfl⟩:=hv
   obtain⟨v,rfl,h1⟩:=hk x s hs
   exact h1
  have eg:∀ args w,(callFunc g args).run P w=.ok (.enter g args) w:=fun args w=>by
   obtain⟨x,y,hxy⟩:=hcf0
   exact hC.enter _ _ hxy args w
  have hown:∀ id h2,own id=some h2→id=0:=fun id h2 e=>by have:=hHp.dom id h2 e;simpa using this
  have hH:HoldsK (lL k) (aa k) w b o l0.toArray:=by
   intro t ht
   rw[size_flatK]at ht
   simp only[List.size_toArray]at ht
   have hi:t / aa k<l0.length:=Nat.div_lt_of_lt_mul (by rw[Nat.mul_comm];exact ht)
   have hj:=Nat.mod_lt t h0
   have ht':t=t / aa k*aa k+t % aa k:=(Nat.div_add_mod' t _).symm
   have q1:=zv hk e7 hi hj
   have q2:=CJ (enc:=lL k) hkl (d:=l0.toArray) (i:=t / aa k) (j:=t % aa k) (by simpa using hi) hj
   rw[←ht']at q2
   rw[Nat.add_assoc,←ht']at q1
   have hl0:l0.toArray[t / aa k]! =l0[t / aa k]:=by rw[getElem!_pos l0.toArray _ (by simpa using hi)];rfl
   rw[hl0]at q2
   have hlt:t< (flatK (lL k) (aa k) l0.toArray).size:=by rw[size_flatK];simpa using ht
   constructor
   ·unfold World.cell?
    rw[e3]
    dsimp only
    rw[q1,←q2,Array.getElem?_eq_getElem hlt,getElem!_pos _ t hlt]
    rfl
   ·unfold World.frozen?
    rw[e3]
    simp
  have hcmp:CmpLays P g cs (lL k) (aa k) cf b o l0.toArray.size w:=by
   intro m os dk hdk x y
   generalize hW:sortWorldK (lL k) (aa k) w b o m dk os=W
   have hcar:Carries F own w F own W:=⟨fun _ h2 e=>⟨h2,e,.refl _⟩,fun c hc hn=>⟨hn,by
    rw[←hW]
    exact ND hc (fun e=>hn (.inr ⟨0,hd,o0,e▸hbown⟩)) _ _⟩⟩
   have henc:∀ z:k.T,Rel (fun _=>False) cg W (.agg (cellsOf k z)) (.agg (lL k z).toArray):=fun z=>by
    refine .agg (by simp[lL]) fun j s hj=>?_
    obtain⟨v,rfl,_⟩:=hk z s (List.mem_of_getElem? hj)
    have:(lL k z).toArray.getD j undef=v:=by
     unfold lL
     rw[Array.getD_eq_getD_getElem?,List.getElem?_toArray,List.getElem?_map,hj]
     rfl
    rw[this];exact .v v
   have hcall:=CG (hC.calls _ _ (hcf x y) trivial (fun _=>False) W (#[.agg (lL k x).toArray,.agg (lL k y).toArray]++cs) (fun _ h=>h.elim) ⟨by simp[c1];omega,fun j s hj=>by
    match j,hj with
    |0,hj=>
     cases hj
     rw[Array.getD_eq_getD_getElem?,Array.getElem?_append_left (by simp)]
     exact henc x
    |1,hj=>
     cases hj
     rw[Array.getD_eq_getD_getElem?,Array.getElem?_append_left (by simp)]
     exact henc y
    |j+2,hj=>
     have hj:caps[j]? =some s:=hj
     have:=((c2 j s hj).carry hcar).over (hpf s (List.mem_of_getElem? hj)) (F':=fun _=>False) (own':=cg) fun _ _ h=>by
      rcases h with h| ⟨_,_,h,_⟩
      ·exact h
      ·cases h
     have e:(#[Value.agg (lL k x).toArray,.agg (lL k y).toArray]++cs).getD (j+2) undef=cs.getD j undef:=by
      rw[Array.getD_eq_getD_getElem?,Array.getD_eq_getD_getElem?,Array.getElem?_append_right (by simp)]
      simp
     rw[e];exact this⟩)
   refine hcall.mono fun e w' hq=>?_
   obtain⟨he,hdr⟩:=hq
   rcases he with⟨s,u,own',hs,rfl,hh,hb⟩ | ⟨z,hz,_⟩
   ·simp only[cX]at hs
    subst hs
    have:=hh.val
    simp only[pu]at this
    rw[bR this]
    exact⟨rfl,Mu hb (hdr (by simp))⟩
   ·exact hz.elim
  have hall:=AnyQ.slices_SortFunc L (aa k) aE zE (lL k) hkl hone cf hO g cs b o cap l0.toArray w eg hcmp hH hbw (by unfold bp at e6;simp only[List.size_toArray];omega)
  rw[e1]
  refine hall.mono fun e w' he=>?_
  obtain⟨rfl,d',n,os,hpm,hst,rfl⟩:=he
  have hd':=Eh hO hp hpm hst
  subst hd'
  have hlS:(srt cf l0).length=l0.length:=List.length_mergeSort _
  generalize srt cf l0=lS at hlS
  have hsb:=sw_b (enc:=lL k) (n:=aa k) (o:=o) (m:=n) e3 lS.toArray os
  refine⟨(),own,trivial,⟨_,rfl,.tup rfl fun j s hj=>by simp at hj⟩,?_,?_,Nat.le_refl _⟩
  ·refine⟨hHp.dom,fun c hc=>Nat.lt_of_lt_of_le (hHp.foreign c hc) (AW _ _),hHp.apart,hHp.inj,fun i h2 c e hc=>Nat.lt_of_lt_of_le (hHp.lt i h2 c e hc) (AW _ _),fun i hi=>?_⟩
   match i,hi with
   |0,_=>
    refine⟨hd,o0,?_⟩
    show RowRel F own _ k lS hd.v hd.bs
    refine .inr ⟨b,o,cap,_,ty,by rw[hlS];exact e1,e2,hsb,?_,by omega,by omega,zw hk fun i j hi hj=>?_⟩
    ·unfold putCells;simpa using e4
    ·have hlt:i*aa k+j< (flatK (lL k) (aa k) lS.toArray).size:=by
      rw[size_flatK]
      have:=Nat.mul_le_mul_right (aa k) (show i+1≤lS.length from hi)
      rw[Nat.succ_mul]at this
      simp only[List.size_toArray];omega
     have hle:o+(i*aa k+j) <cells.size:=by
      rw[size_flatK]at hlt
      simp only[List.size_toArray]at hlt
      have:=Nat.mul_le_mul_right (aa k) (show lS.length≤cap by omega)
      omega
     rw[Nat.add_assoc,AV hlt hle,CJ hkl (by simpa using hi) hj]
     have:lS.toArray[i]! =lS[i]:=by rw[getElem!_pos lS.toArray _ (by simpa using hi)];rfl
     rw[this]
   |i+1,hi=>rw[jC (by simp)]at hi;cases hi
  ·refine⟨fun _ h2 e=>⟨h2,e,.refl _⟩,(Fr.refl { w:=w,own:=own}).base,rfl,rfl,rfl,AW _ _,fun c hc=>?_⟩
   exact ND hc.1 (fun e=>hc.2 ⟨0,hd,o0,e▸hbown⟩) _ _
end
end Go.Sx
end
section
namespace Go.Sx
open Go.RowKit Go.Shelf Go.Lib Go.Sort Go.Proofs
def vA (l:List Int):List Int:=l.mergeSort fun x y=>decide (x≤y)
noncomputable def AX:List SV→List Ob→Option HCon:=gK (fun x_:List Int=>[.os 0]) (fun x_=>[.row .int x_]) (fun x_=>eK True (.tup []) [.row .int (vA x_)])
@[go_sem] theorem RR (l_:List Int):AX ([.os 0]) ([.row .int l_])=some (eK True (.tup []) [.row .int (vA l_)]):=eX (A:=fun x_:List Int=>[.os 0]) (H:=fun x_=>[.row .int x_]) (K:=fun x_=>eK True (.tup []) [.row .int (vA x_)]) (x:=l_)
section
variable {P:Program}{ρ:Ren}
theorem TW {enc:Int→Value}{w:World}{b:Nat}{cs:Array Value}{ty:TypeId}(hb:w.heap[b]? =some (.cells cs ty (0,0)))(D:Array Int)(o:Nat):(putRow enc w b o D).heap[b]? =some (.cells (putCells enc o D cs) ty (0,0)):=by
 unfold putRow mapBlock
 simp only[Array.getElem?_modify,if_true,hb]
 rfl
theorem PI {enc:Int→Value}{w:World}{b c:Nat}(hc:c≠b)(D:Array Int)(o:Nat):(putRow enc w b o D).heap[c]? =w.heap[c]?:=by
 unfold putRow mapBlock
 simp only[Array.getElem?_modify]
 rw[if_neg (fun e=>hc e.symm)]
theorem JG {enc:Int→Value}{D:Array Int}{cs:Array Value}{o t:Nat}(ht:t<D.size)(hs:o+t<cs.size):(putCells enc o D cs)[o+t]? =some (enc D[t]):=by
 unfold putCells
 rw[Array.getElem?_mapIdx,Array.getElem?_eq_getElem hs]
 simp only[Option.map_some]
 rw[if_pos (by omega)]
 have:o+t - o=t:=by omega
 rw[this,getElem!_pos D t ht]
theorem gp_b {enc:Int→Value}{b o m:Nat}{w:World}{cs:Array Value}{ty:TypeId}(hb:w.heap[b]? =some (.cells cs ty (0,0)))(d:Array Int)(os:Array Obj):(grow (putRow enc (Sort.ahead w m) b o d) os).heap[b]? =some (.cells (putCells enc o d cs) ty (0,0)):=by
 have hlt:b<w.heap.size:=(Array.getElem?_eq_some_iff.1 hb).1
 unfold grow
 simp only
 rw[Array.getElem?_append_left (by unfold putRow mapBlock Sort.ahead;simpa using hlt)]
 exact TW (w:=Sort.ahead w m) hb _ _
theorem TX {enc:Int→Value}{b o m c:Nat}{w:World}(hc:c<w.heap.size)(hne:c≠b)(d:Array Int)(os:Array Obj):(grow (putRow enc (Sort.ahead w m) b o d) os).heap[c]? =w.heap[c]?:=by
 unfold grow
 simp only
 rw[Array.getElem?_append_left (by unfold putRow mapBlock Sort.ahead;simpa using hc)]
 exact PI (w:=Sort.ahead w m) hne _ _
theorem AY {enc:Int→Value}{b o m:Nat}{w:World}(d:Array Int)(os:Array Obj):w.heap.size≤(grow (putRow enc (Sort.ahead w m) b o d) os).heap.size:=by
 unfold grow putRow mapBlock Sort.ahead
 simp
theorem zy:uu .int:=by
 intro x s hs
 have:s=.v (.int .i64 x):=by simpa[cellsOf]using hs
 exact⟨_,this,rfl⟩
theorem Ej (L:SlLaysM.n5 P ρ):FnOkO P (ρ.f 5) AX:=by
 refine⟨fun l h c hc args w=>L.f5.enters rfl args w,fun l h c hc hp F own w vs hHp hvs=>?_⟩
 obtain⟨l0,rfl,rfl,rfl⟩:=dJ hc
 clear hc
 obtain⟨hsz,hrel⟩:=hvs
 have r0:=hrel 0 _ rfl
 have hvs2:vs= #[vs.getD 0 undef]:=by
  apply Array.ext
  ·simpa using hsz
  ·intro i h1 h2
   simp only[List.length_cons,List.length_nil]at hsz
   match i,h1,h2 with
   |0,h1,_=>simp[Array.getD,h1]
   |i+1,h1,_=>omega
 generalize vs.getD 0 undef=v0 at r0 hvs2
 subst hvs2
 obtain⟨hd,o0,rfl,_⟩:=fa r0
 obtain⟨hd',o0',hrow⟩:=hHp.at (id:=0) (o:=.row .int l0) rfl rfl
 rw[o0]at o0'
 cases o0'
 have hrow:RowRel F own w .int l0 hd.v hd.bs:=hrow
 rcases hrow with⟨a,e1,rfl,e2⟩ | ⟨b,o,cap,cells,ty,e1,e2,e3,e4,e5,e6,e7⟩
 ·rw[e1]
  refine(AnyM.slices_Sort_int_none L a 0 w).mono fun e w' he=>?_
  obtain⟨rfl,rfl⟩:=he
  refine⟨(),own,trivial,⟨_,rfl,.tup rfl fun j s hj=>by simp at hj⟩,?_,Fr.refl _,Nat.le_refl _⟩
  have:vA ([]:List Int)=[]:=by simp[vA]
  show Hp F own w' [.row .int (vA [])]
  rw[this]
  exact hHp
 ·have hbown:b∈hd.bs:=by rw[e2];simp
  have hbw:b<w.heap.size:=hHp.lt 0 hd b o0 hbown
  have hH:Holds (Value.int .i64) w b o (l0:List Int).toArray:=by
   intro t ht
   simp only[List.size_toArray]at ht
   have q1:=zv zy e7 (i:=t) (j:=0) ht (by decide)
   have e0:aa .int=1:=rfl
   rw[e0,Nat.mul_one,Nat.add_zero]at q1
   constructor
   ·unfold World.cell?
    rw[e3]
    dsimp only
    rw[q1,getElem!_pos _ t (by simpa using ht)]
    rfl
   ·unfold World.frozen?
    rw[e3]
    simp
  have hlen:l0.length<4611686018427387904:=by unfold bp at e6;omega
  have hall:=AnyM.slices_Sort_int L b o cap l0 w hH hbw hlen
  rw[e1]
  refine hall.mono fun e w' he=>?_
  obtain⟨rfl,n,os,rfl⟩:=he
  have hlS:(vA l0).length=l0.length:=List.length_mergeSort _
  show ∃ r own',_∧DH F w own 1 (.returned (.tuple #[])) own' (grow (putRow (Value.int .i64) (Sort.ahead w n) b o (vA l0).toArray) os) (.ret (.tup []) [.row .int (vA l0)])
  generalize vA l0=lS at hlS
  have hsb:=gp_b (enc:=Value.int .i64) (o:=o) (m:=n) e3 lS.toArray os
  refine⟨(),own,trivial,⟨_,rfl,.tup rfl fun j s hj=>by simp at hj⟩,?_,?_,Nat.le_refl _⟩
  ·refine⟨hHp.dom,fun c hc=>Nat.lt_of_lt_of_le (hHp.foreign c hc) (AY _ _),hHp.apart,hHp.inj,fun i h2 c e hc=>Nat.lt_of_lt_of_le (hHp.lt i h2 c e hc) (AY _ _),fun i hi=>?_⟩
   match i,hi with
   |0,_=>
    refine⟨hd,o0,?_⟩
    show RowRel F own _ .int lS hd.v hd.bs
    have hc1:aa .int=1:=rfl
    refine .inr ⟨b,o,cap,_,ty,by rw[hlS];exact e1,e2,hsb,?_,by omega,by omega,zw zy fun i j hi hj=>?_⟩
    ·unfold putCells;simpa using e4
    ·rw[hc1]at hj ⊢
     have hj0:j=0:=by omega
     subst hj0
     rw[Nat.mul_one,Nat.add_zero,JG (by simpa using hi) (by have h9:aa .int=1:=rfl;simp only[h9,Nat.mul_one]at e4 e5;omega)]
     simp[lL,cellsOf,NC]
   |i+1,hi=>rw[jC (by simp)]at hi;cases hi
  ·refine⟨fun _ h2 e=>⟨h2,e,.refl _⟩,(Fr.refl { w:=w,own:=own}).base,rfl,rfl,rfl,AY _ _,fun c hc=>?_⟩
   exact TX hc.1 (fun e=>hc.2 ⟨0,hd,o0,e▸hbown⟩) _ _
end
end Go.Sx
end
section
namespace Go.Sx
open Go.RowKit
section
variable {P:Program}{ts:Tis}{G:Cons}{N:Nat}
theorem Ek (hm:P.follows .mixedOrders=true)(hts:ts.ok P)(hG:ConsOk P G){id:Nat}{g:Operand}{ps:Array Tmp}{assign body:Code}{C:St→Option LCon}
  (hpn:ps.toList.Nodup) (hpN:∀ p∈ps.toList,p<N) (hca:cd N assign=true) (hcb:cd N body=true)
  (h:∀ st0 lc,C st0=some lc→lc.pre→∃ st,NilS st0 st∧∃ (f:FuncId) (caps:List SV) (τ ρ σ:Type) (l:List τ) (mk:τ→List SV) (step:τ→σ→ρ⊕σ) (p:τ→σ→Prop) (pre:Prop) (s0:σ) (exE:ρ→Ex) (outE:ρ→St) (outN:σ→St) (T:List (Nat×SV)) (H:σ→List Ob) (Hy:ρ→List Ob) (js:List Nat),
   raw st.t g=.fn f [] caps∧lc=LC pre (dV step l s0) exE outE outN∧okL step p l s0∧st.h.length≤(H s0).length∧Sub js st.h.length ⟨st.t,pz (ji st caps) st.h⟩ ⟨T,H s0⟩∧
   AB P f (fun y=>y::caps.map (ren (D6 (ji st caps)) 3)) (B_ (ji st caps) st.h) (l.map mk)∧
   (∀ x s,p x s→(mk x).length=ps.size∧∃ L,(∀ l,al P (some l) N L assign)∧(∀ l,al P (some l) N L body)∧exec ts G L assign ⟨psT ps.toList (mk x)++T,H s⟩ (fun e st1=>e=.normal∧exec ts G L body st1 (rgQ step exE T H Hy st.h.length id x s)))∧
   (∀ s,gf (outN s) st.h.length ⟨T,H s⟩)∧∀ y,gf (outE y) st.h.length ⟨T,Hy y⟩):iI P none N id (.rangeFunc g ps assign body) C:=by
 intro nd F w0 st0 lc hC hpre own a w hr
 obtain⟨st,hN,hrest⟩:=h st0 lc hC hpre
 obtain⟨own',hr'⟩:=hN.rel hr
 refine uc hm hts hG hpn hpN hca hcb (C:=fun s=>@ite _ (s=st) (Classical.propDecidable _) (some lc) none) (fun s l e _=>?_) nd F w0 st lc (if_pos rfl) hpre own' a w hr'
 split at e
 ·rename_i e1
  subst e1
  cases e
  exact hrest
 ·cases e
end
end Go.Sx
end
section
namespace Go.Proofs
open Go.Shelf
def Tryz.sortI_ren:Go.Shelf.Ren:=⟨fun|5=>70|8=>78|7=>106|19=>117|20=>118|10=>139|11=>140|12=>141|13=>142|14=>143|15=>144|16=>145|17=>146|18=>147|30=>167|31=>151|32=>152|33=>168|34=>169|35=>79|40=>182|n=>n,fun|23=>62|25=>3|3=>3|32=>153|22=>62|0=>0|44=>191|46=>193|4=>4|36=>184|35=>183|41=>188|5=>5|9=>9|53=>219|57=>223|63=>236|64=>237|n=>n,fun|n=>n⟩
theorem Tryz.sortI:Go.Proofs.SlLaysM.n5 Tryz.prog Tryz.sortI_ren:= {
 mixed:=by kernel_rfl
 f5:=⟨Tryz.f70.name,by decide,Tryz.func70.trans (congrArg some (by kernel_rfl))⟩
 f7:=⟨Tryz.f106.name,by decide,Tryz.func106.trans (congrArg some (by kernel_rfl))⟩
 f8:=Tryz.func78.trans (congrArg some (by kernel_rfl))
 f10:=⟨Tryz.f139.name,by decide,Tryz.func139.trans (congrArg some (by kernel_rfl))⟩
 f11:=⟨Tryz.f140.name,by decide,Tryz.func140.trans (congrArg some (by kernel_rfl))⟩
 f12:=⟨Tryz.f141.name,by decide,Tryz.func141.trans (congrArg some (by kernel_rfl))⟩
 f13:=⟨Tryz.f142.name,by decide,Tryz.func142.trans (congrArg some (by kernel_rfl))⟩
 f14:=⟨Tryz.f143.name,by decide,Tryz.func143.trans (congrArg some (by kernel_rfl))⟩
 f15:=⟨Tryz.f144.name,by decide,Tryz.func144.trans (congrArg some (by kernel_rfl))⟩
 f16:=⟨Tryz.f145.name,by decide,Tryz.func145.trans (congrArg some (by kernel_rfl))⟩
 f17:=⟨Tryz.f146.name,by decide,Tryz.func146.trans (congrArg some (by kernel_rfl))⟩
 f18:=⟨Tryz.f147.name,by decide,Tryz.func147.trans (congrArg some (by kernel_rfl))⟩
 f19:=Tryz.func117.trans (congrArg some (by kernel_rfl))
 f20:=Tryz.func118.trans (congrArg some (by kernel_rfl))
 f30:=⟨Tryz.f167.name,by decide,Tryz.func167.trans (congrArg some (by kernel_rfl))⟩
 f31:=Tryz.func151.trans (congrArg some (by kernel_rfl))
 f32:=Tryz.func152.trans (congrArg some (by kernel_rfl))
 f33:=⟨Tryz.f168.name,by decide,Tryz.func168.trans (congrArg some (by kernel_rfl))⟩
 f34:=⟨Tryz.f169.name,by decide,Tryz.func169.trans (congrArg some (by kernel_rfl))⟩
 f35:=⟨Tryz.f79.name,by decide,Tryz.func79.trans (congrArg some (by kernel_rfl))⟩
 f40:=⟨Tryz.f182.name,by decide,Tryz.func182.trans (congrArg some (by kernel_rfl))⟩
 t0:=Tryz.underlying0
 a0:=Tryz.isAgg0
 z0:=Tryz.sizeOf0
 v0:=Tryz.zeroValue0
 t3:=Tryz.underlying3
 a3:=Tryz.isAgg3
 z3:=Tryz.sizeOf3
 v3:=Tryz.zeroValue3
 t4:=Tryz.underlying4
 a4:=Tryz.isAgg4
 z4:=Tryz.sizeOf4
 v4:=Tryz.zeroValue4
 t5:=Tryz.underlying5
 a5:=Tryz.isAgg5
 z5:=Tryz.sizeOf5
 v5:=Tryz.zeroValue5
 t9:=Tryz.underlying9
 a9:=Tryz.isAgg9
 z9:=Tryz.sizeOf9
 v9:=Tryz.zeroValue9
 t22:=Tryz.underlying62
 a22:=Tryz.isAgg62
 z22:=Tryz.sizeOf62
 v22:=Tryz.zeroValue62
 t23:=Tryz.underlying62
 a23:=Tryz.isAgg62
 z23:=Tryz.sizeOf62
 v23:=Tryz.zeroValue62
 t25:=Tryz.underlying3
 a25:=Tryz.isAgg3
 z25:=Tryz.sizeOf3
 v25:=Tryz.zeroValue3
 t32:=Tryz.underlying153
 a32:=Tryz.isAgg153
 z32:=Tryz.sizeOf153
 v32:=Tryz.zeroValue153
 t35:=Tryz.underlying183
 a35:=Tryz.isAgg183
 z35:=Tryz.sizeOf183
 v35:=Tryz.zeroValue183
 t36:=Tryz.underlying184
 a36:=Tryz.isAgg184
 z36:=Tryz.sizeOf184
 v36:=Tryz.zeroValue184
 t41:=Tryz.underlying188
 a41:=Tryz.isAgg188
 z41:=Tryz.sizeOf188
 v41:=Tryz.zeroValue188
 t44:=Tryz.underlying191
 a44:=Tryz.isAgg191
 z44:=Tryz.sizeOf191
 v44:=Tryz.zeroValue191
 t46:=Tryz.underlying193
 a46:=Tryz.isAgg193
 z46:=Tryz.sizeOf193
 v46:=Tryz.zeroValue193
 t53:=Tryz.underlying219
 a53:=Tryz.isAgg219
 z53:=Tryz.sizeOf219
 v53:=Tryz.zeroValue219
 t57:=Tryz.underlying223
 a57:=Tryz.isAgg223
 z57:=Tryz.sizeOf223
 v57:=Tryz.zeroValue223
 t63:=Tryz.underlying236
 a63:=Tryz.isAgg236
 z63:=Tryz.sizeOf236
 v63:=Tryz.zeroValue236
 t64:=Tryz.underlying237
 a64:=Tryz.isAgg237
 z64:=Tryz.sizeOf237
 v64:=Tryz.zeroValue237}
end Go.Proofs
end
section
namespace Go.Sx
open Go.Proofs
set_option maxRecDepth 100000
set_option linter.unusedSimpArgs false
theorem mm {p:Prop}(h:p:=by(first|done|(repeat' (first|with_reducible refine And.intro ?_ ?_|((with_reducible show _≠_);first|assumption|omega|(simp_all [bE,bM];done) |grind) |with_reducible intro _)) <;>(first|done|with_reducible exact Empty.elim ‹Empty› |with_reducible assumption|rfl|omega|assumption|decide|exact fk [0,1,2,3,4,5,6,11] |exact fk [0,1,2,3,4,5,6,7] |exact czl|(simp only[*,cond_true,cond_false,Bool.not_true,Bool.not_false,go_sem,Nat.reduceBEq,Nat.reduceLeDiff,Nat.reduceLT,decide_true,Nat.reduceAdd,Nat.reduceSub,Nat.reduceMul,Int.reduceLE,Int.reduceLT,Int.reduceToNat,Int.reduceNeg,reduceCtorEq];(repeat' (first|with_reducible refine And.intro ?_ ?_|((with_reducible show _≠_);first|assumption|omega|(simp_all [bE,bM];done) |grind) |with_reducible intro _)) <;>(first|done|assumption|rfl|omega|decide|exact fk [0,1,2,3,4,5,6,11] |exact fk [0,1,2,3,4,5,6,7] |(simp_all [bE,bM];done))) |(simp_all [okI,bE,bM];done) |(simp_all [bE,bM];(first|done|exact fk2 [0,1,2,3,4,5,6,11] |exact fk2 [0,1,2,3,4,5,6,7])) |exact fk2 [0,1,2,3,4,5,6,11] |exact fk2 [0,1,2,3,4,5,6,7]))):p:=h
theorem My:FnOkO Tryz.prog 70 AX:=Ej Tryz.sortI
@[go_sem] def bQ (d:District)(k_0:Nat)(s_0:List (RegisterTitle×Int)):Empty⊕(List (RegisterTitle×Int)):=(bif((d.rights.getD k_0 (default:Right)).kind==1)then .inr (e_ .registerTitle .int s_0 ({ right:=(k_0:Int),farm:=(d.rights.getD k_0 (default:Right)).farm}:RegisterTitle) ((d.rights.getD k_0 (default:Right)).litres))else .inr s_0)
@[go_sem] def bH (ds:List Deed)(z_1:Deed)(s_1:List Int×List (RegisterTitle×Int)):Empty⊕(List Int×List (RegisterTitle×Int)):=(bif((bY .registerTitle .int s_1.2 ({ right:=z_1.right,farm:=z_1.since}:RegisterTitle)) ==0)then .inr ((s_1.1++([z_1.no])),s_1.2)else(bif(z_1.kind==1)then .inr (s_1.1,(dc z_1 (bY .registerTitle .int s_1.2 ({ right:=z_1.right,farm:=z_1.since}:RegisterTitle)) (kM .registerTitle .int s_1.2 ({ right:=z_1.right,farm:=z_1.since}:RegisterTitle))))else(bif(z_1.kind==2)then .inr (s_1.1,(ca z_1 (bY .registerTitle .int s_1.2 ({ right:=z_1.right,farm:=z_1.since}:RegisterTitle)) (kM .registerTitle .int s_1.2 ({ right:=z_1.right,farm:=z_1.since}:RegisterTitle))))else(bif(z_1.kind==3)then .inr (s_1.1,(kM .registerTitle .int s_1.2 ({ right:=z_1.right,farm:=z_1.since}:RegisterTitle)))else .inr default))))
def df (ds:List Deed)(z_1:Deed)(s_1:List Int×List (RegisterTitle×Int)):Prop:=((((bY .registerTitle .int s_1.2 ({ right:=z_1.right,farm:=z_1.since}:RegisterTitle)) ==0)=true→((s_1.1++([z_1.no])).length*8≤fG))∧(((bY .registerTitle .int s_1.2 ({ right:=z_1.right,farm:=z_1.since}:RegisterTitle)) ==0)=false→((z_1.kind==1)=false→(((z_1.kind==2)=true→(dD z_1 (bY .registerTitle .int s_1.2 ({ right:=z_1.right,farm:=z_1.since}:RegisterTitle)) (kM .registerTitle .int s_1.2 ({ right:=z_1.right,farm:=z_1.since}:RegisterTitle))))∧((z_1.kind==2)=false→((z_1.kind==3)=false→False))))))
def dl (d:District)(ds:List Deed):List (RegisterTitle×Int)×List Int:=(match an (bQ d) d.rights.length 0 ([])with| .inl x=>x.elim| .inr s_0=>(match dV (bH ds) (az ds) ([],s_0)with| .inl x=>x.elim| .inr s_1=>(s_1.2,(vA s_1.1))))
def gR (d:District)(ds:List Deed):Prop:=(d.rights.length≤bp→(∀ s_0,an (bQ d) d.rights.length 0 ([])=.inr s_0→((bW ds ((az ds).map th))∧okL (bH ds) (df ds) (az ds) ([],s_0))))
@[go_sem] noncomputable def nq:List SV→Option Con:=(pD .district fun d=>(pFn 108 (pXR .deed fun ds=>(pE ((pE (.det (gR d ds) (.tup [.nm .registerTitle .int ((dl d ds).1),.nw .int ((dl d ds).2)]))))))))
theorem r6:FnOk Tryz.prog 40 nq:=by
 have hG:ConsOk Tryz.prog (mkG [(69,n_)] [(70,AX),(103,im),(104,gN),(105,gO)]):=aw (cgc tj cg0) (cgc My (cgc o9 (cgc oH (cgc oI cg0))))
 refine oC [(.cell 5 62,.int)] mixed am hG (fn:=Tryz.f40) (c:=ae Tryz.f40) (by kernel_rfl) (by kernel_rfl) (by kernel_rfl) (by kernel_rfl) (aY fun d=>(sQ (Mc fun ds=>(aF ((aF (fun hp=>?_)))))))
 dsimp only[aD]at hp
 unfold gR at hp
 refine⟨Nat.le_of_ble_eq_true rfl,(fun id st=>bif Nat.beq id 0 then some (LCR (ρ:=Empty) (σ:=(List (RegisterTitle×Int))) 4 [] [0,1,2,3] (fun k_0 s_0=>⟨[(1,.fn 108 [] [.ep [.rs .deed ds] 0]),(4,.ptr 1 0),(5,.ptr 2 0),(14,.rs .right d.rights),(15,.v (.int .i64 (d.rights.length:Int))),(16,.v (.int .i64 (k_0:Int)))],[.dead,.cells [.os 3],.cells [.v (.slice none 0 0)],.mp .registerTitle .int s_0 none]⟩) (bQ d) pT d.rights.length ([]) (d.rights.length≤bp) ((·.elim)) ((·.elim)) st)else bif Nat.beq id 2 then some (LC (ρ:=Empty) (σ:=List Int×List (RegisterTitle×Int)) (lk 4 st.t=.ptr 1 0∧lk 5 st.t=.ptr 2 0∧lk 8 st.t=.ptr 5 0∧lk 33 st.t=.fn 108 [] [.ep [.rs .deed ds] 0]∧st.h=[.dead,.cells [.os 3],.cells [.v (.slice none 0 0)],.mp .registerTitle .int (bE (an (bQ d) d.rights.length 0 ([]))) none,.mp .int .fnc dZ none,.cells [.os 4]]∧bW ds ((az ds).map th)∧okL (bH ds) (df ds) (az ds) ([],(bE (an (bQ d) d.rights.length 0 ([]))))) (dV (bH ds) (az ds) ([],(bE (an (bQ d) d.rights.length 0 ([]))))) (fun x=>x.elim) (fun x=>x.elim) (fun s_1=>⟨[(4,.ptr 1 0),(5,.ptr 2 0),(8,.ptr 5 0)],[.dead,.cells [.os 3],.cells [.os 7],.mp .registerTitle .int s_1.2 none,.mp .int .fnc dZ none,.cells [.os 4],.dead,.row .int s_1.1]⟩))else none),?_,?_⟩
 ·unfold ae Tryz.f40
  simp only[al,true_and,and_true]
  refine⟨?_,?_⟩
  ·refine dy mixed am hG (by kernel_rfl) (fun _=>rfl) (d.rights.length:Int) rfl iS (fun hb0 k_0 s_0 hlt0 _ hw hc=>⟨L0,ah _,?_⟩) (fun hb0 s_0 hc=>?_)
   ·exact Cn
   ·exact Co
  ·refine Ek mixed am hG (by decide) (by decide) (by kernel_rfl) (by kernel_rfl) fun st lc hC hp=>?_
   simp only[go_sem,Nat.reduceBEq,Option.some.injEq]at hC
   subst hC
   obtain⟨t,h⟩:=st
   dsimp only[LC]at hp
   obtain⟨e1_0,e1_1,e1_2,e1_3,rfl,hb1,hok1⟩:=hp
   refine⟨⟨t,[.dead,.cells [.os 3],.cells [.os 6],.mp .registerTitle .int (bE (an (bQ d) d.rights.length 0 ([]))) none,.mp .int .fnc dZ none,.cells [.os 4],.row .int ([])]⟩,NilS.cell (h:=[.dead,.cells [.os 3],.cells [.v (.slice none 0 0)],.mp .registerTitle .int (bE (an (bQ d) d.rights.length 0 ([]))) none,.mp .int .fnc dZ none,.cells [.os 4]]) (i:=2) (j:=0) (.row .int ([])) (NilS.refl _) rfl rfl (.inl ⟨_,rfl⟩),108,[.ep [.rs .deed ds] 0],Deed,_,_,(az ds),th,(bH ds),(df ds),_,([],(bE (an (bQ d) d.rights.length 0 ([])))),_,_,_,[(4,.ptr 1 0),(5,.ptr 2 0),(8,.ptr 5 0)],(fun s_1=>[.dead,.cells [.os 3],.cells [.os 7],.mp .registerTitle .int s_1.2 none,.mp .int .fnc dZ none,.cells [.os 4],.dead,.row .int s_1.1]),(fun x=>x.elim),[0,1,2,3,4,5,6,6],?_,rfl,hok1,Nat.le_of_ble_eq_true rfl,?_,iL ds _ hb1,fun z_1 s_1 hq1=>⟨rfl,L0,fun l=>?_,fun l=>?_,?_⟩,fun s_1=>?_,fun y=>?_⟩
   ·simp only[go_sem,e1_0,e1_1,e1_2,e1_3]
   ·simp only[go_sem,Nat.reduceBEq,Nat.reduceLeDiff,Nat.reduceLT,decide_true,Nat.reduceAdd,Nat.reduceSub,Nat.reduceMul,Int.reduceLE,Int.reduceLT,Int.reduceToNat,Int.reduceNeg,reduceCtorEq,pz,ji,List.flatMap_cons,List.flatMap_nil,List.nil_append,List.append_nil,List.map_nil,e1_0,e1_1,e1_2,e1_3]
    all_goals (first|done|decide|(repeat' (first|refine And.intro ?_ ?_|rfl|decide)))
   ·simp only[al,and_self,true_and,and_true]
   ·simp only[al,and_self,true_and,and_true]
   ·unfold df at hq1
    rcases Bool.eq_false_or_eq_true (z_1.kind==1)with hk0|hk0
    ·simp only[go_sem,Nat.reduceBEq,Nat.reduceLeDiff,Nat.reduceLT,decide_true,Nat.reduceAdd,Nat.reduceSub,Nat.reduceMul,Int.reduceLE,Int.reduceLT,Int.reduceToNat,Int.reduceNeg,reduceCtorEq,kp,bH,psT,th,List.cons_append,List.nil_append,hk0]
     all_goals exact mm
    rcases Bool.eq_false_or_eq_true (z_1.kind==2)with hk1|hk1
    ·simp only[go_sem,Nat.reduceBEq,Nat.reduceLeDiff,Nat.reduceLT,decide_true,Nat.reduceAdd,Nat.reduceSub,Nat.reduceMul,Int.reduceLE,Int.reduceLT,Int.reduceToNat,Int.reduceNeg,reduceCtorEq,kp,bH,psT,th,List.cons_append,List.nil_append,hk0,hk1]
     all_goals exact mm
    rcases Bool.eq_false_or_eq_true (z_1.kind==3)with hk2|hk2
    ·simp only[go_sem,Nat.reduceBEq,Nat.reduceLeDiff,Nat.reduceLT,decide_true,Nat.reduceAdd,Nat.reduceSub,Nat.reduceMul,Int.reduceLE,Int.reduceLT,Int.reduceToNat,Int.reduceNeg,reduceCtorEq,kp,bH,psT,th,List.cons_append,List.nil_append,hk0,hk1,hk2]
     all_goals exact mm
    simp only[go_sem,Nat.reduceBEq,Nat.reduceLeDiff,Nat.reduceLT,decide_true,Nat.reduceAdd,Nat.reduceSub,Nat.reduceMul,Int.reduceLE,Int.reduceLT,Int.reduceToNat,Int.reduceNeg,reduceCtorEq,kp,bH,psT,th,List.cons_append,List.nil_append,hk0,hk1,hk2]
    all_goals exact mm
   ·simp only[go_sem,Nat.reduceBEq,Nat.reduceLeDiff,Nat.reduceLT,decide_true,Nat.reduceAdd,Nat.reduceSub,Nat.reduceMul,Int.reduceLE,Int.reduceLT,Int.reduceToNat,Int.reduceNeg,reduceCtorEq,kp]
    all_goals exact mm
   ·simp only[go_sem,Nat.reduceBEq,Nat.reduceLeDiff,Nat.reduceLT,decide_true,Nat.reduceAdd,Nat.reduceSub,Nat.reduceMul,Int.reduceLE,Int.reduceLT,Int.reduceToNat,Int.reduceNeg,reduceCtorEq,kp]
    all_goals exact mm
 ·unfold ae Tryz.f40
  try unfold dl
  simp only[go_sem,Nat.reduceBEq,Nat.reduceLeDiff,Nat.reduceLT,decide_true,Nat.reduceAdd,Nat.reduceSub,Nat.reduceMul,Int.reduceLE,Int.reduceLT,Int.reduceToNat,Int.reduceNeg,reduceCtorEq,kp]
  all_goals exact cl
end Go.Sx
end
section
namespace Go.Proofs
open Go.Shelf
def Tryz.sortLh_ren:Go.Shelf.Ren:=⟨fun|6=>42|15=>78|14=>77|28=>117|29=>118|20=>109|21=>110|22=>111|23=>112|24=>113|25=>114|26=>115|27=>116|46=>150|47=>151|48=>152|49=>153|50=>154|57=>171|n=>n,fun|22=>54|24=>58|25=>103|3=>3|39=>153|0=>0|53=>191|55=>193|4=>4|46=>184|45=>183|50=>188|5=>5|9=>9|66=>219|70=>223|76=>236|77=>237|n=>n,fun|n=>n⟩
theorem Tryz.sortLh:Go.Proofs.SlLaysF0.n6 Tryz.prog Tryz.sortLh_ren:= {
 mixed:=by kernel_rfl
 f6:=⟨Tryz.f42.name,by decide,Tryz.func42.trans (congrArg some (by kernel_rfl))⟩
 f14:=⟨Tryz.f77.name,by decide,Tryz.func77.trans (congrArg some (by kernel_rfl))⟩
 f15:=Tryz.func78.trans (congrArg some (by kernel_rfl))
 f20:=⟨Tryz.f109.name,by decide,Tryz.func109.trans (congrArg some (by kernel_rfl))⟩
 f21:=⟨Tryz.f110.name,by decide,Tryz.func110.trans (congrArg some (by kernel_rfl))⟩
 f22:=⟨Tryz.f111.name,by decide,Tryz.func111.trans (congrArg some (by kernel_rfl))⟩
 f23:=⟨Tryz.f112.name,by decide,Tryz.func112.trans (congrArg some (by kernel_rfl))⟩
 f24:=⟨Tryz.f113.name,by decide,Tryz.func113.trans (congrArg some (by kernel_rfl))⟩
 f25:=⟨Tryz.f114.name,by decide,Tryz.func114.trans (congrArg some (by kernel_rfl))⟩
 f26:=⟨Tryz.f115.name,by decide,Tryz.func115.trans (congrArg some (by kernel_rfl))⟩
 f27:=⟨Tryz.f116.name,by decide,Tryz.func116.trans (congrArg some (by kernel_rfl))⟩
 f28:=Tryz.func117.trans (congrArg some (by kernel_rfl))
 f29:=Tryz.func118.trans (congrArg some (by kernel_rfl))
 f46:=⟨Tryz.f150.name,by decide,Tryz.func150.trans (congrArg some (by kernel_rfl))⟩
 f47:=Tryz.func151.trans (congrArg some (by kernel_rfl))
 f48:=Tryz.func152.trans (congrArg some (by kernel_rfl))
 f49:=⟨Tryz.f153.name,by decide,Tryz.func153.trans (congrArg some (by kernel_rfl))⟩
 f50:=⟨Tryz.f154.name,by decide,Tryz.func154.trans (congrArg some (by kernel_rfl))⟩
 f57:=⟨Tryz.f171.name,by decide,Tryz.func171.trans (congrArg some (by kernel_rfl))⟩
 t0:=Tryz.underlying0
 a0:=Tryz.isAgg0
 z0:=Tryz.sizeOf0
 v0:=Tryz.zeroValue0
 t3:=Tryz.underlying3
 a3:=Tryz.isAgg3
 z3:=Tryz.sizeOf3
 v3:=Tryz.zeroValue3
 t4:=Tryz.underlying4
 a4:=Tryz.isAgg4
 z4:=Tryz.sizeOf4
 v4:=Tryz.zeroValue4
 t5:=Tryz.underlying5
 a5:=Tryz.isAgg5
 z5:=Tryz.sizeOf5
 v5:=Tryz.zeroValue5
 t9:=Tryz.underlying9
 a9:=Tryz.isAgg9
 z9:=Tryz.sizeOf9
 v9:=Tryz.zeroValue9
 t22:=Tryz.underlying54
 a22:=Tryz.isAgg54
 z22:=Tryz.sizeOf54
 v22:=Tryz.zeroValue54
 t25:=Tryz.underlying103
 a25:=Tryz.isAgg103
 z25:=Tryz.sizeOf103
 v25:=Tryz.zeroValue103
 t39:=Tryz.underlying153
 a39:=Tryz.isAgg153
 z39:=Tryz.sizeOf153
 v39:=Tryz.zeroValue153
 t45:=Tryz.underlying183
 a45:=Tryz.isAgg183
 z45:=Tryz.sizeOf183
 v45:=Tryz.zeroValue183
 t46:=Tryz.underlying184
 a46:=Tryz.isAgg184
 z46:=Tryz.sizeOf184
 v46:=Tryz.zeroValue184
 t50:=Tryz.underlying188
 a50:=Tryz.isAgg188
 z50:=Tryz.sizeOf188
 v50:=Tryz.zeroValue188
 t53:=Tryz.underlying191
 a53:=Tryz.isAgg191
 z53:=Tryz.sizeOf191
 v53:=Tryz.zeroValue191
 t55:=Tryz.underlying193
 a55:=Tryz.isAgg193
 z55:=Tryz.sizeOf193
 v55:=Tryz.zeroValue193
 t66:=Tryz.underlying219
 a66:=Tryz.isAgg219
 z66:=Tryz.sizeOf219
 v66:=Tryz.zeroValue219
 t70:=Tryz.underlying223
 a70:=Tryz.isAgg223
 z70:=Tryz.sizeOf223
 v70:=Tryz.zeroValue223
 t76:=Tryz.underlying236
 a76:=Tryz.isAgg236
 z76:=Tryz.sizeOf236
 v76:=Tryz.zeroValue236
 t77:=Tryz.underlying237
 a77:=Tryz.isAgg237
 z77:=Tryz.sizeOf237
 v77:=Tryz.zeroValue237}
end Go.Proofs
end
section
namespace Go.Sx
open Go.RowKit Go.Shelf Go.Lib Go.Sort Go.Proofs
set_option maxRecDepth 100000
noncomputable def qg:List SV→List Ob→Option HCon:=kv .holding 43 [] bP
@[go_sem] theorem JH {l0:List Holding}:qg [.os 0,.fn 43 [] []] [.row .holding l0]=some (eK (apart bP l0) (.tup []) [.row .holding (srt bP l0)]):=rA
theorem yF:uu .holding:=fun x s hs=>by
 simp only[cellsOf,List.mem_cons,List.not_mem_nil,or_false]at hs
 rcases hs with rfl|rfl|rfl|rfl
 all_goals exact⟨_,rfl,rfl⟩
theorem u3 (x y:Holding):oX (.agg (cellsOf .holding x):: .agg (cellsOf .holding y)::[])=some (.det True (.v (.int .i64 (bP x y)))):=by
 simp only[go_sem,Nat.reduceBEq]
theorem AZ:FnOkO Tryz.prog 42 qg:=
 u0 (k:=.holding) Tryz.sortLh (fun w=>by kernel_rfl) (fun w=>by kernel_rfl) yF (by decide) (g:=43) (caps:=[]) ul (cf:=bP) u3 uU (fun s hs=>by cases hs) ⟨default,default,u3 _ _⟩
end Go.Sx
end
section
namespace Go.Sx
open Go.Proofs
set_option maxRecDepth 100000
set_option linter.unusedSimpArgs false
theorem zz {p:Prop}(h:p:=by(first|done|(repeat' (first|with_reducible refine And.intro ?_ ?_|((with_reducible show _≠_);first|assumption|omega|(simp_all [bE,bM];done) |grind) |with_reducible intro _)) <;>(first|done|with_reducible exact Empty.elim ‹Empty› |with_reducible assumption|rfl|omega|assumption|decide|exact fk [0,1,2,3,7] |exact fk [0,1,2,3,4] |exact czl|(simp only[*,cond_true,cond_false,Bool.not_true,Bool.not_false,go_sem,Nat.reduceBEq,Nat.reduceLeDiff,Nat.reduceLT,decide_true,Nat.reduceAdd,Nat.reduceSub,Nat.reduceMul,Int.reduceLE,Int.reduceLT,Int.reduceToNat,Int.reduceNeg,reduceCtorEq];(repeat' (first|with_reducible refine And.intro ?_ ?_|((with_reducible show _≠_);first|assumption|omega|(simp_all [bE,bM];done) |grind) |with_reducible intro _)) <;>(first|done|assumption|rfl|omega|decide|exact fk [0,1,2,3,7] |exact fk [0,1,2,3,4] |(simp_all [bE,bM];done))) |(simp_all [okI,bE,bM];done) |(simp_all [bE,bM];(first|done|exact fk2 [0,1,2,3,7] |exact fk2 [0,1,2,3,4])) |exact fk2 [0,1,2,3,7] |exact fk2 [0,1,2,3,4]))):p:=h
theorem clQ {p:Prop}(h:p:=by((repeat' (first|with_reducible refine And.intro ?_ ?_|with_reducible intro _)) <;>(first|done|with_reducible exact Empty.elim ‹Empty› |with_reducible assumption|rfl|((try simp only[AJ,Jj]at *);first|with_reducible assumption|(simp_all only[bE,bM];done) |grind|(simp_all only[bE,bM];grind))))):p:=h
@[go_sem] def cO (a0:District)(a1:List Deed)(a2:Int)(a3:Int)(k_0:RegisterTitle×Int)(s_0:List Holding):Empty⊕(List Holding):=(bif(decide (k_0.2 > 0))then .inr (s_0++([({ right:=k_0.1.right,farm:=k_0.1.farm,litres:=k_0.2,rank:=(a0.rights.getD (Int.toNat k_0.1.right) (default:Right)).rank}:Holding)]))else .inr s_0)
def iC (a0:District)(a1:List Deed)(a2:Int)(a3:Int)(k_0:RegisterTitle×Int)(s_0:List Holding):Prop:=((decide (k_0.2 > 0))=true→((0≤k_0.1.right∧k_0.1.right< (a0.rights.length:Int))∧((s_0++([({ right:=k_0.1.right,farm:=k_0.1.farm,litres:=k_0.2,rank:=(a0.rights.getD (Int.toNat k_0.1.right) (default:Right)).rank}:Holding)])).length*32≤fG)))
def aj (a0:District)(a1:List Deed)(a2:Int)(a3:Int):List Holding×Int:=(bif((aN a0 a1) !=0)then([],(aN a0 a1))else(bif((!(aG a2 0 (IntKind.i64.wrap (a0.hours - 1)))) ||(!(aG a3 0 1048576)))then([],1)else(match dV (cO a0 a1 a2 a3) ((dl a0 (cG a1 a2 a3)).1) ([])with| .inl x=>x.elim| .inr s_0=>((srt bP s_0),0))))
def kL (a0:District)(a1:List Deed)(a2:Int)(a3:Int):Prop:=((fT a0 a1)∧((((aN a0 a1) !=0)=true→(([],(aN a0 a1))=(aj a0 a1 a2 a3)))∧(((aN a0 a1) !=0)=false→((((!(aG a2 0 (IntKind.i64.wrap (a0.hours - 1)))) ||(!(aG a3 0 1048576)))=true→(([],1)=(aj a0 a1 a2 a3)))∧(((!(aG a2 0 (IntKind.i64.wrap (a0.hours - 1)))) ||(!(aG a3 0 1048576)))=false→((eM a1 a2 a3)∧((gR a0 (cG a1 a2 a3))∧(∀ L_0,L_0.Perm ((dl a0 (cG a1 a2 a3)).1)→(okL (cO a0 a1 a2 a3) (iC a0 a1 a2 a3) L_0 ([])∧(∀ s_0,dV (cO a0 a1 a2 a3) L_0 ([])=.inr s_0→((apart bP s_0)∧(((srt bP s_0),0)=(aj a0 a1 a2 a3)))))))))))))
@[go_sem] def nv:List SV→Option Con:=(pD .district fun a0=>(pR .deed fun a1=>(pI fun a2=>(pI fun a3=>(pE (.det (kL a0 a1 a2 a3) (.tup [.nw .holding ((aj a0 a1 a2 a3).1),.v (.int .i64 ((aj a0 a1 a2 a3).2))])))))))
theorem xL:FnOk Tryz.prog 21 nv:=by
 have hG:ConsOk Tryz.prog (mkG [(26,fun l=>ko (dp [.st .district,.sl .deed] l)),(39,kH),(40,fun l=>nq (dp [.st .district,.o] l)),(41,fun l=>lR (dp [.sl .deed,.o,.o] l))] [(42,qg)]):=aw (cgc (ni.norm [.st .district,.sl .deed]) (cgc mK (cgc (r6.norm [.st .district,.o]) (cgc (p9.norm [.sl .deed,.o,.o]) cg0)))) (cgc AZ cg0)
 refine oC [(.tmp 8,.holding)] mixed am hG (fn:=Tryz.f21) (c:=ae Tryz.f21) (by kernel_rfl) (by kernel_rfl) (by kernel_rfl) (by kernel_rfl) (aY fun a0=>(dW fun a1=>(b_ fun a2=>(b_ fun a3=>(aF (fun hp=>?_))))))
 dsimp only[aD]at hp
 unfold kL at hp
 refine⟨Nat.le_of_ble_eq_true rfl,(fun id st=>bif Nat.beq id 0 then some (LCP (τ:=RegisterTitle×Int) (ρ:=Empty) (σ:=(List Holding)) 4 [.slot 8 (.row .holding ([]))] [0,1,2,3,4] (fun left_0 cur_0 s_0=>⟨[(4,.ptr 0 0),(8,.os 4),(41,.ptr 3 0)],[.cells (cellsOf .district a0),.mp .registerTitle .int ((dl a0 (cG a1 a2 a3)).1) (some (3,none)),.dead,.mi (some 1) (((dl a0 (cG a1 a2 a3)).1).length) left_0 cur_0,.row .holding s_0]⟩) (cO a0 a1 a2 a3) (iC a0 a1 a2 a3) ((dl a0 (cG a1 a2 a3)).1) ([]) ((·.elim)) ((·.elim)) (fun s_0=>⟨[(8,.os 4)],[.dead,.dead,.dead,.dead,.row .holding s_0]⟩) st)else none),?_,?_⟩
 ·unfold ae Tryz.f21
  simp only[al,true_and,and_true]
  ·refine Jf (cV .registerTitle,cV .int) 3 mixed am hG (by kernel_rfl) (fun _=>rfl) fun left_0 cur_0 s_0 hp0=>⟨L0,ah _,?_⟩
   ·by_cases hl0:left_0=[]
    ·subst hl0
     simp only[go_sem,Nat.reduceBEq,Nat.reduceLeDiff,Nat.reduceLT,decide_true,Nat.reduceAdd,Nat.reduceSub,Nat.reduceMul,Int.reduceLE,Int.reduceLT,Int.reduceToNat,Int.reduceNeg,reduceCtorEq,List.not_mem_nil]
     all_goals exact zz
    ·simp only[go_sem,Nat.reduceBEq,Nat.reduceLeDiff,Nat.reduceLT,decide_true,Nat.reduceAdd,Nat.reduceSub,Nat.reduceMul,Int.reduceLE,Int.reduceLT,Int.reduceToNat,Int.reduceNeg,reduceCtorEq,hl0]
     intro j hj0
     obtain⟨hlt0,hq0⟩:=hp0 j hj0
     unfold iC at hq0
     all_goals exact zz
 ·unfold ae Tryz.f21
  simp only[go_sem,Nat.reduceBEq,Nat.reduceLeDiff,Nat.reduceLT,decide_true,Nat.reduceAdd,Nat.reduceSub,Nat.reduceMul,Int.reduceLE,Int.reduceLT,Int.reduceToNat,Int.reduceNeg,reduceCtorEq]
  all_goals exact clQ
end Go.Sx
end
section
namespace Go.Sx
open Go.Proofs
set_option maxRecDepth 100000
set_option linter.unusedSimpArgs false
theorem CK {p:Prop}(h:p:=by(first|done|(repeat' (first|with_reducible refine And.intro ?_ ?_|((with_reducible show _≠_);first|assumption|omega|(simp_all [bE,bM];done) |grind) |with_reducible intro _)) <;>(first|done|with_reducible exact Empty.elim ‹Empty› |with_reducible assumption|rfl|omega|assumption|decide|exact fk [0,1] |(refine Or.inr ?_;exact fkY [0,1]) |(refine Or.inl ?_;exact fkY [0,1]) |(refine Or.inl ⟨rfl,?_⟩;exact fkY [0,1]) |exact czl|(simp only[*,cond_true,cond_false,Bool.not_true,Bool.not_false,go_sem,Nat.reduceBEq,Nat.reduceLeDiff,Nat.reduceLT,decide_true,Nat.reduceAdd,Nat.reduceSub,Nat.reduceMul,Int.reduceLE,Int.reduceLT,Int.reduceToNat,Int.reduceNeg,reduceCtorEq];(repeat' (first|with_reducible refine And.intro ?_ ?_|((with_reducible show _≠_);first|assumption|omega|(simp_all [bE,bM];done) |grind) |with_reducible intro _)) <;>(first|done|assumption|rfl|omega|decide|exact fk [0,1] |(refine Or.inr ?_;exact fkY [0,1]) |(refine Or.inl ?_;exact fkY [0,1]) |(refine Or.inl ⟨rfl,?_⟩;exact fkY [0,1]) |(simp_all [bE,bM];done))) |(exfalso;rename_i h1 h2;rw[h1]at h2;cases h2) |(exfalso;rename_i h1 h2;simp only[h1,Bool.not_false,Bool.not_true,Bool.true_or,Bool.or_true,Bool.false_or,Bool.or_false,reduceCtorEq]at h2;done) |(exfalso;clear hy hG;simp_all;done) |(simp only[*,Sum.inr.injEq,forall_eq',true_implies,forall_const,reduceCtorEq,false_implies,and_true,List.length_append,List.length_cons,List.length_nil,Nat.zero_add,go_sem,Nat.reduceBEq,Nat.reduceLeDiff,Nat.reduceLT,decide_true,Nat.reduceAdd,Nat.reduceSub,Nat.reduceMul,Int.reduceLE,Int.reduceLT,Int.reduceToNat,Int.reduceNeg,reduceCtorEq]at hq2;first|exact hq2.1|exact hq2.2.1|exact hq2|exact hq2.2|(simp only[hq2];done)) |(simp only[*,Sum.inr.injEq,forall_eq',true_implies,forall_const,reduceCtorEq,false_implies,and_true,List.length_append,List.length_cons,List.length_nil,Nat.zero_add,go_sem,Nat.reduceBEq,Nat.reduceLeDiff,Nat.reduceLT,decide_true,Nat.reduceAdd,Nat.reduceSub,Nat.reduceMul,Int.reduceLE,Int.reduceLT,Int.reduceToNat,Int.reduceNeg,reduceCtorEq]at hq1;first|exact hq1.1|exact hq1.2.1|exact hq1|exact hq1.2|(simp only[hq1];done)) |(clear hy hG;simp_all only[bE,bM,Sum.inr.injEq,forall_eq',true_implies,forall_const,reduceCtorEq,false_implies,and_true,List.length_append,List.length_cons,List.length_nil,Nat.zero_add,go_sem,Nat.reduceBEq,Nat.reduceLeDiff,Nat.reduceLT,decide_true,Nat.reduceAdd,Nat.reduceSub,Nat.reduceMul,Int.reduceLE,Int.reduceLT,Int.reduceToNat,Int.reduceNeg,reduceCtorEq];done) |(simp_all [okI,bE,bM];done) |(simp_all [bE,bM];(first|done|exact fk2 [0,1])) |exact fk2 [0,1]))):p:=h
theorem JI {p:Prop}(h:p:=by simp only[go_sem,Nat.reduceBEq,Nat.reduceLeDiff,Nat.reduceLT,decide_true,Nat.reduceAdd,Nat.reduceSub,Nat.reduceMul,Int.reduceLE,Int.reduceLT,Int.reduceToNat,Int.reduceNeg,reduceCtorEq,hc,hw];all_goals exact CK):p:=h
theorem JJ {p:Prop}(h:p:=by simp only[go_sem,Nat.reduceBEq,Nat.reduceLeDiff,Nat.reduceLT,decide_true,Nat.reduceAdd,Nat.reduceSub,Nat.reduceMul,Int.reduceLE,Int.reduceLT,Int.reduceToNat,Int.reduceNeg,reduceCtorEq,hc];all_goals exact CK):p:=h
@[go_sem] def uv (x:Claim):List SV:=[.agg (cellsOf .claim x)]
@[go_sem] def rB:List SV→Option Con:=(pD .district fun d=>(pR .deed fun l_=>(pI fun hour=>(pI fun known=>(pE (.det True (.fn 87 [] [.ep (cellsOf .district d) 0,.ep [.rs .deed l_] 0,.ep [.v (.int .i64 hour)] 0,.ep [.v (.int .i64 known)] 0])))))))
theorem xM:FnOk Tryz.prog 51 rB:=by
 have hG:ConsOk Tryz.prog (mkG [] []):=aw cg0 cg0
 refine aX [.o] mixed am hG (fn:=Tryz.f51) (c:=ae Tryz.f51) (by kernel_rfl) (by kernel_rfl) (by kernel_rfl) (by kernel_rfl) (aY fun d=>(dW fun l_=>(b_ fun hour=>(b_ fun known=>(aF (fun hp=>?_))))))
 refine⟨Nat.le_of_ble_eq_true rfl,L0,ah _,?_⟩
 unfold ae Tryz.f51
 simp only[go_sem,Ck,Cl,Nat.reduceBEq,Nat.reduceLeDiff,Nat.reduceAdd,Nat.reduceSub,Nat.reduceMul]
@[go_sem] def eh (d:District)(l_:List Deed)(hour:Int)(known:Int)(k_0:Nat)(s_0:List Claim):Empty⊕(List Claim):=(bif(((decide (hour< (d.rights.getD (Int.toNat ((((aj d l_ hour known).1).getD k_0 (default:Holding)).right)) (default:Right)).since)) ||(decide (hour > (d.rights.getD (Int.toNat ((((aj d l_ hour known).1).getD k_0 (default:Holding)).right)) (default:Right)).to))) ||(decide ((Int.tmod (IntKind.i64.wrap (hour - (d.rights.getD (Int.toNat ((((aj d l_ hour known).1).getD k_0 (default:Holding)).right)) (default:Right)).since)) ((d.rights.getD (Int.toNat ((((aj d l_ hour known).1).getD k_0 (default:Holding)).right)) (default:Right)).every))≥(d.rights.getD (Int.toNat ((((aj d l_ hour known).1).getD k_0 (default:Holding)).right)) (default:Right)).length)))then .inr s_0 else .inr (s_0++[({ right:=(((aj d l_ hour known).1).getD k_0 (default:Holding)).right,farm:=(((aj d l_ hour known).1).getD k_0 (default:Holding)).farm,hour:=hour,litres:=(((aj d l_ hour known).1).getD k_0 (default:Holding)).litres,rank:=(((aj d l_ hour known).1).getD k_0 (default:Holding)).rank}:Claim)]))
def jp (d:District)(l_:List Deed)(hour:Int)(known:Int)(items_:List (List SV))(k_0:Nat)(s_0:List Claim):Prop:=((0≤(((aj d l_ hour known).1).getD k_0 (default:Holding)).right∧(((aj d l_ hour known).1).getD k_0 (default:Holding)).right< (d.rights.length:Int))∧((((decide (hour< (d.rights.getD (Int.toNat ((((aj d l_ hour known).1).getD k_0 (default:Holding)).right)) (default:Right)).since)) ||(decide (hour > (d.rights.getD (Int.toNat ((((aj d l_ hour known).1).getD k_0 (default:Holding)).right)) (default:Right)).to)))=false→(d.rights.getD (Int.toNat ((((aj d l_ hour known).1).getD k_0 (default:Holding)).right)) (default:Right)).every≠0)∧((((decide (hour< (d.rights.getD (Int.toNat ((((aj d l_ hour known).1).getD k_0 (default:Holding)).right)) (default:Right)).since)) ||(decide (hour > (d.rights.getD (Int.toNat ((((aj d l_ hour known).1).getD k_0 (default:Holding)).right)) (default:Right)).to))) ||(decide ((Int.tmod (IntKind.i64.wrap (hour - (d.rights.getD (Int.toNat ((((aj d l_ hour known).1).getD k_0 (default:Holding)).right)) (default:Right)).since)) ((d.rights.getD (Int.toNat ((((aj d l_ hour known).1).getD k_0 (default:Holding)).right)) (default:Right)).every))≥(d.rights.getD (Int.toNat ((((aj d l_ hour known).1).getD k_0 (default:Holding)).right)) (default:Right)).length)))=false→(items_[s_0.length]? =some (uv ({ right:=(((aj d l_ hour known).1).getD k_0 (default:Holding)).right,farm:=(((aj d l_ hour known).1).getD k_0 (default:Holding)).farm,hour:=hour,litres:=(((aj d l_ hour known).1).getD k_0 (default:Holding)).litres,rank:=(((aj d l_ hour known).1).getD k_0 (default:Holding)).rank}:Claim))))))
def dF (d:District)(l_:List Deed)(hour:Int)(known:Int):List Claim:=(match an (eh d l_ hour known) (((aj d l_ hour known).1).length) 0 ([]:List Claim)with| .inl x=>x.elim| .inr s_0=>s_0)
def gA (d:District)(l_:List Deed)(hour:Int)(known:Int)(items_:List (List SV)):Prop:=((kL d l_ hour known)∧(((aj d l_ hour known).1).length≤bp→(okI (eh d l_ hour known) (jp d l_ hour known items_) (((aj d l_ hour known).1).length) 0 ([]:List Claim)∧(∀ s_0,an (eh d l_ hour known) (((aj d l_ hour known).1).length) 0 ([]:List Claim)=.inr s_0→(items_.length=s_0.length)))))
theorem uw (d:District)(l_:List Deed)(hour:Int)(known:Int)(items_:List (List SV))(hp:gA d l_ hour known items_):AB Tryz.prog 87 (fun y=>[y,.ep (cellsOf .district d) 0,.ep [.rs .deed l_] 0,.ep [.v (.int .i64 hour)] 0,.ep [.v (.int .i64 known)] 0]) [] items_:=by
 unfold gA at hp
 refine Je mixed am (fn:=Tryz.f87) (c:=ae Tryz.f87) (by kernel_rfl) (by kernel_rfl) (by kernel_rfl) (by kernel_rfl) rfl (n:=0) rfl (G:=fun r_=>yp [(21,fun l=>nv (dp [.st .district,.sl .deed,.o,.o] l))] [] (GO items_ r_)) (fun r_ hy=>?_) (fun args w=>by kernel_rfl)
 have hG:ConsOk Tryz.prog (yp [(21,fun l=>nv (dp [.st .district,.sl .deed,.o,.o] l))] [] (GO items_ r_)):=vM (cgc (xL.norm [.st .district,.sl .deed,.o,.o]) cg0) cg0 hy
 refine⟨hG,Nat.le_of_ble_eq_true rfl,(fun id st=>bif Nat.beq id 0 then some (LCY (ρ:=Empty) (σ:=(List Claim)) 2 [] [0,1] (fun k_0 s_0=>⟨[(0,.os 0),(1,.ep (cellsOf .district d) 0),(3,.ep [.v (.int .i64 hour)] 0),(19,.os 1),(20,.v (.int .i64 (((aj d l_ hour known).1).length:Int))),(21,.v (.int .i64 (k_0:Int)))],[.ab (r_.1 (s_0.length+1)),.row .holding ((aj d l_ hour known).1)]⟩) (eh d l_ hour known) (jp d l_ hour known items_) (((aj d l_ hour known).1).length) ([]:List Claim) (((aj d l_ hour known).1).length≤bp) ((·.elim)) ((·.elim)) ⟨[],[.ab (r_.1 0),.dead]⟩ st)else none),?_,?_⟩
 ·unfold ae Tryz.f87
  simp only[al,true_and,and_true]
  ·refine Cg mixed am hG (by kernel_rfl) (fun _=>rfl) (((aj d l_ hour known).1).length:Int) rfl iS (fun hb0 k_0 s_0 hlt0 hq0 hw hc=>⟨L0,ah _,?_⟩) (fun hb0 s_0 hc=>?_)
   ·unfold jp at hq0
    try simp only[hw,Int.toNat_natCast]at hq0
    exact JI
   ·exact JJ
 ·unfold ae Tryz.f87
  simp only[go_sem,Nat.reduceBEq,Nat.reduceLeDiff,Nat.reduceLT,decide_true,Nat.reduceAdd,Nat.reduceSub,Nat.reduceMul,Int.reduceLE,Int.reduceLT,Int.reduceToNat,Int.reduceNeg,reduceCtorEq]
  all_goals exact tg
end Go.Sx
end
section
namespace Go.Proofs
open Go.Shelf
def Tryz.sortLfh_ren:Go.Shelf.Ren:=⟨fun|6=>55|15=>78|14=>88|28=>117|29=>118|20=>122|21=>123|22=>124|23=>125|24=>126|25=>127|26=>128|27=>129|46=>157|47=>151|48=>152|49=>158|50=>159|57=>173|n=>n,fun|22=>77|24=>81|25=>135|3=>3|39=>153|0=>0|53=>191|55=>193|4=>4|46=>184|45=>183|50=>188|5=>5|9=>9|66=>219|70=>223|76=>236|77=>237|n=>n,fun|n=>n⟩
theorem Tryz.sortLfh:Go.Proofs.SlLaysF0.n6 Tryz.prog Tryz.sortLfh_ren:= {
 mixed:=by kernel_rfl
 f6:=⟨Tryz.f55.name,by decide,Tryz.func55.trans (congrArg some (by kernel_rfl))⟩
 f14:=⟨Tryz.f88.name,by decide,Tryz.func88.trans (congrArg some (by kernel_rfl))⟩
 f15:=Tryz.func78.trans (congrArg some (by kernel_rfl))
 f20:=⟨Tryz.f122.name,by decide,Tryz.func122.trans (congrArg some (by kernel_rfl))⟩
 f21:=⟨Tryz.f123.name,by decide,Tryz.func123.trans (congrArg some (by kernel_rfl))⟩
 f22:=⟨Tryz.f124.name,by decide,Tryz.func124.trans (congrArg some (by kernel_rfl))⟩
 f23:=⟨Tryz.f125.name,by decide,Tryz.func125.trans (congrArg some (by kernel_rfl))⟩
 f24:=⟨Tryz.f126.name,by decide,Tryz.func126.trans (congrArg some (by kernel_rfl))⟩
 f25:=⟨Tryz.f127.name,by decide,Tryz.func127.trans (congrArg some (by kernel_rfl))⟩
 f26:=⟨Tryz.f128.name,by decide,Tryz.func128.trans (congrArg some (by kernel_rfl))⟩
 f27:=⟨Tryz.f129.name,by decide,Tryz.func129.trans (congrArg some (by kernel_rfl))⟩
 f28:=Tryz.func117.trans (congrArg some (by kernel_rfl))
 f29:=Tryz.func118.trans (congrArg some (by kernel_rfl))
 f46:=⟨Tryz.f157.name,by decide,Tryz.func157.trans (congrArg some (by kernel_rfl))⟩
 f47:=Tryz.func151.trans (congrArg some (by kernel_rfl))
 f48:=Tryz.func152.trans (congrArg some (by kernel_rfl))
 f49:=⟨Tryz.f158.name,by decide,Tryz.func158.trans (congrArg some (by kernel_rfl))⟩
 f50:=⟨Tryz.f159.name,by decide,Tryz.func159.trans (congrArg some (by kernel_rfl))⟩
 f57:=⟨Tryz.f173.name,by decide,Tryz.func173.trans (congrArg some (by kernel_rfl))⟩
 t0:=Tryz.underlying0
 a0:=Tryz.isAgg0
 z0:=Tryz.sizeOf0
 v0:=Tryz.zeroValue0
 t3:=Tryz.underlying3
 a3:=Tryz.isAgg3
 z3:=Tryz.sizeOf3
 v3:=Tryz.zeroValue3
 t4:=Tryz.underlying4
 a4:=Tryz.isAgg4
 z4:=Tryz.sizeOf4
 v4:=Tryz.zeroValue4
 t5:=Tryz.underlying5
 a5:=Tryz.isAgg5
 z5:=Tryz.sizeOf5
 v5:=Tryz.zeroValue5
 t9:=Tryz.underlying9
 a9:=Tryz.isAgg9
 z9:=Tryz.sizeOf9
 v9:=Tryz.zeroValue9
 t22:=Tryz.underlying77
 a22:=Tryz.isAgg77
 z22:=Tryz.sizeOf77
 v22:=Tryz.zeroValue77
 t25:=Tryz.underlying135
 a25:=Tryz.isAgg135
 z25:=Tryz.sizeOf135
 v25:=Tryz.zeroValue135
 t39:=Tryz.underlying153
 a39:=Tryz.isAgg153
 z39:=Tryz.sizeOf153
 v39:=Tryz.zeroValue153
 t45:=Tryz.underlying183
 a45:=Tryz.isAgg183
 z45:=Tryz.sizeOf183
 v45:=Tryz.zeroValue183
 t46:=Tryz.underlying184
 a46:=Tryz.isAgg184
 z46:=Tryz.sizeOf184
 v46:=Tryz.zeroValue184
 t50:=Tryz.underlying188
 a50:=Tryz.isAgg188
 z50:=Tryz.sizeOf188
 v50:=Tryz.zeroValue188
 t53:=Tryz.underlying191
 a53:=Tryz.isAgg191
 z53:=Tryz.sizeOf191
 v53:=Tryz.zeroValue191
 t55:=Tryz.underlying193
 a55:=Tryz.isAgg193
 z55:=Tryz.sizeOf193
 v55:=Tryz.zeroValue193
 t66:=Tryz.underlying219
 a66:=Tryz.isAgg219
 z66:=Tryz.sizeOf219
 v66:=Tryz.zeroValue219
 t70:=Tryz.underlying223
 a70:=Tryz.isAgg223
 z70:=Tryz.sizeOf223
 v70:=Tryz.zeroValue223
 t76:=Tryz.underlying236
 a76:=Tryz.isAgg236
 z76:=Tryz.sizeOf236
 v76:=Tryz.zeroValue236
 t77:=Tryz.underlying237
 a77:=Tryz.isAgg237
 z77:=Tryz.sizeOf237
 v77:=Tryz.zeroValue237}
end Go.Proofs
end
section
namespace Go.Sx
open Go.RowKit Go.Shelf Go.Lib Go.Sort Go.Proofs
set_option maxRecDepth 100000
noncomputable def qh:List SV→List Ob→Option HCon:=kv .claimsFound 56 [] dI
@[go_sem] theorem JK {l0:List ClaimsFound}:qh [.os 0,.fn 56 [] []] [.row .claimsFound l0]=some (eK (apart dI l0) (.tup []) [.row .claimsFound (srt dI l0)]):=rA
theorem CL:uu .claimsFound:=fun x s hs=>by
 simp only[cellsOf,List.mem_cons,List.not_mem_nil,or_false]at hs
 rcases hs with rfl|rfl|rfl|rfl|rfl|rfl
 all_goals exact⟨_,rfl,rfl⟩
theorem zA (x y:ClaimsFound):pL (.agg (cellsOf .claimsFound x):: .agg (cellsOf .claimsFound y)::[])=some (.det True (.v (.int .i64 (dI x y)))):=by
 simp only[go_sem,Nat.reduceBEq]
theorem A0:FnOkO Tryz.prog 55 qh:=
 u0 (k:=.claimsFound) Tryz.sortLfh (fun w=>by kernel_rfl) (fun w=>by kernel_rfl) CL (by decide) (g:=56) (caps:=[]) vp (cf:=dI) zA zt (fun s hs=>by cases hs) ⟨default,default,zA _ _⟩
end Go.Sx
end
