/- Part of the proof that the law RegisterOrder returns true and leaves its arguments as they were, for all arguments of bulk at most 1048576 (the Upto form). -/
import Derived.Test.YthcbieoehjhjfaaGreatQ207
import Derived.Test.YthcbieoehjhjfaaGreatProg
import Derived.Sort.Statements
import Derived.Shelf.SlSortCmp.Insertion
set_option linter.all false
set_option maxHeartbeats 4000000
set_option maxRecDepth 100000
section
namespace Go.Sx
open Go.Proofs
theorem kr {p:Prop}(h:p:=by kernel_rfl):p:=h
def ti3:TI:=⟨1,8,false,[(.v (.int .i64 0))],[],0,0,false,false,(some .int),(some .i64),false,[],none,none,1⟩
def ti4:TI:=⟨1,1,false,[(.v (.bool false))],[],0,0,false,false,(some .bool),none,false,[],none,none,3⟩
def ti9:TI:=⟨1,16,false,[(.v (.string (ByteArray.mk #[])))],[],0,0,false,false,(some .str),none,false,[],none,none,2⟩
def GG:TI:=⟨2,16,true,[(.v (.int .i64 0)),(.v (.int .i64 0))],[(0,(1,false)),(1,(1,false))],0,0,false,false,(some .tank),none,false,[1,1],none,none,0⟩
def GH:TI:=⟨1,24,false,[(.v (.slice none 0 0))],[],113,0,true,false,none,none,false,[],none,none,0⟩
def GI:TI:=⟨1,24,false,[(.v (.slice none 0 0))],[],115,0,true,false,none,none,false,[],none,none,0⟩
def GJ:TI:=⟨1,24,false,[(.v (.slice none 0 0))],[],140,0,true,false,none,none,false,[],none,none,0⟩
def GK:TI:=⟨1,24,false,[(.v (.slice none 0 0))],[],58,0,true,false,none,none,false,[],none,none,0⟩
def GL:TI:=⟨1,24,false,[(.v (.slice none 0 0))],[],144,0,true,false,none,none,false,[],none,none,0⟩
def GM:TI:=⟨1,24,false,[(.v (.slice none 0 0))],[],214,0,true,false,none,none,false,[],none,none,0⟩
def GN:TI:=⟨10,184,true,[(.v (.string (ByteArray.mk #[]))),(.v (.int .i64 0)),(.v (.int .i64 0)),(.v (.int .i64 0)),(.v (.slice none 0 0)),(.v (.slice none 0 0)),(.v (.slice none 0 0)),(.v (.slice none 0 0)),(.v (.slice none 0 0)),(.v (.slice none 0 0))],[(0,(1,false)),(1,(1,false)),(2,(2,true)),(4,(1,false)),(5,(1,false)),(6,(1,false)),(7,(1,false)),(8,(1,false)),(9,(1,false))],0,0,false,false,(some .district),none,false,[],none,none,0⟩
def GO:TI:=⟨1,24,false,[(.v (.slice none 0 0))],[],35,0,true,false,none,none,false,[],none,none,0⟩
def GP:TI:=⟨1,24,false,[(.v (.slice none 0 0))],[],71,0,true,false,none,none,false,[],none,none,0⟩
def GQ:TI:=⟨9,88,true,[(.v (.int .i64 0)),(.v (.int .i64 0)),(.v (.int .i64 0)),(.v (.int .i64 0)),(.v (.int .i64 0)),(.v (.slice none 0 0)),(.v (.int .i64 0)),(.v (.int .i64 0)),(.v (.int .i64 0))],[(0,(1,false)),(1,(1,false)),(2,(1,false)),(3,(1,false)),(4,(1,false)),(5,(1,false)),(6,(1,false)),(7,(1,false)),(8,(1,false))],0,0,false,false,(some .deed),none,false,[],none,none,0⟩
def GR:TI:=⟨1,24,false,[(.v (.slice none 0 0))],[],67,0,true,false,none,none,false,[],none,none,0⟩
def GS:TI:=⟨1,24,false,[(.v (.slice none 0 0))],[],3,0,true,false,none,none,false,[],none,none,0⟩
def GU:TI:=⟨10,88,true,[(.v (.string (ByteArray.mk #[]))),(.v (.int .i64 0)),(.v (.int .i64 0)),(.v (.int .i64 0)),(.v (.int .i64 0)),(.v (.int .i64 0)),(.v (.int .i64 0)),(.v (.int .i64 0)),(.v (.int .i64 0)),(.v (.int .i64 0))],[(0,(1,false)),(1,(1,false)),(2,(1,false)),(3,(1,false)),(4,(1,false)),(5,(1,false)),(6,(1,false)),(7,(1,false)),(8,(1,false)),(9,(1,false))],0,0,false,false,(some .right),none,false,[2,1,1,1,1,1,1,1,1,1],none,none,0⟩
def GV:TI:=⟨1,8,false,[(.v (.map none))],[],4,0,false,false,none,none,false,[],(some .int),(some .bool),0⟩
def GW:TI:=⟨4,32,true,[(.v (.int .i64 0)),(.v (.int .i64 0)),(.v (.int .i64 0)),(.v (.int .i64 0))],[(0,(1,false)),(1,(1,false)),(2,(1,false)),(3,(1,false))],0,0,false,false,(some .holding),none,false,[1,1,1,1],none,none,0⟩
def GX:TI:=⟨2,16,true,[(.v (.int .i64 0)),(.v (.int .i64 0))],[(0,(1,false)),(1,(1,false))],0,0,false,false,(some .ratio),none,false,[1,1],none,none,0⟩
def GY:TI:=⟨3,24,true,[(.v (.int .i64 0)),(.v (.int .i64 0)),(.v (.int .i64 0))],[(0,(1,false)),(1,(2,true))],0,0,false,false,(some .part),none,false,[1,1,1],none,none,0⟩
def GZ:TI:=⟨1,8,false,[(.v (.map none))],[],35,0,false,false,none,none,false,[],(some .int),(some .deed),0⟩
def G0:TI:=⟨1,8,false,[(.v (.map none))],[],3,0,false,false,none,none,false,[],(some .registerTitle),(some .int),0⟩
def G1:TI:=⟨2,16,true,[(.v (.int .i64 0)),(.v (.int .i64 0))],[(0,(1,false)),(1,(1,false))],0,0,false,false,(some .registerTitle),none,false,[1,1],none,none,0⟩
def Ba:TI:=⟨4,32,true,[(.v (.int .i64 0)),(.v (.int .i64 0)),(.v (.int .i64 0)),(.v (.int .i64 0))],[],69,2,false,true,(some .ratio2),none,false,[],none,none,0⟩
def Bb:TI:=⟨2,16,true,[(.v (.int .i64 0)),(.v (.int .i64 0))],[(0,(1,false)),(1,(1,false))],0,0,false,false,(some .range),none,false,[1,1],none,none,0⟩
def Bc:TI:=⟨12,104,true,[(.v (.string (ByteArray.mk #[]))),(.v (.int .i64 0)),(.v (.int .i64 0)),(.v (.int .i64 0)),(.v (.int .i64 0)),(.v (.int .i64 0)),(.v (.int .i64 0)),(.v (.int .i64 0)),(.v (.int .i64 0)),(.v (.int .i64 0)),(.v (.int .i64 0)),(.v (.int .i64 0))],[(0,(1,false)),(1,(1,false)),(2,(1,false)),(3,(1,false)),(4,(1,false)),(5,(1,false)),(6,(2,true)),(8,(4,true))],0,0,false,false,(some .reach),none,false,[],none,none,0⟩
def Bd:TI:=⟨4,40,true,[(.v (.string (ByteArray.mk #[]))),(.v (.int .i64 0)),(.v (.int .i64 0)),(.v (.int .i64 0))],[(0,(1,false)),(1,(1,false)),(2,(1,false)),(3,(1,false))],0,0,false,false,(some .farm),none,false,[2,1,1,1],none,none,0⟩
def Be:TI:=⟨1,8,false,[(.v (.int .u64 0))],[],0,0,false,false,none,(some .u64),false,[],none,none,1⟩
def Bf:TI:=⟨1,8,false,[(.v (.map none))],[],127,0,false,false,none,none,false,[],(some .int),(some .fnc),0⟩
def Bg:TI:=⟨2,24,true,[(.v (.string (ByteArray.mk #[]))),(.v (.int .i64 0))],[(0,(1,false)),(1,(1,false))],0,0,false,false,(some .crop),none,false,[2,1],none,none,0⟩
def Bh:TI:=⟨4,40,true,[(.v (.string (ByteArray.mk #[]))),(.v (.int .i64 0)),(.v (.int .i64 0)),(.v (.int .i64 0))],[(0,(1,false)),(1,(1,false)),(2,(1,false)),(3,(1,false))],0,0,false,false,(some .duty),none,false,[2,1,1,1],none,none,0⟩
def Bi:TI:=⟨1,8,false,[(.v .nilFunc)],[],0,0,false,false,none,none,false,[],none,none,0⟩
def Bj:TI:=⟨1,8,true,[(.v .nilFunc)],[(0,(1,false))],0,0,false,false,none,none,false,[],none,none,0⟩
def ts:Tis:=fun t=>(bif Nat.ble t 58 then(bif Nat.ble t 28 then(bif Nat.ble t 23 then(bif Nat.ble t 4 then(bif Nat.ble t 3 then(bif Nat.beq t 3 then some ti3 else none)else(bif Nat.beq t 4 then some ti4 else none))else(bif Nat.ble t 9 then(bif Nat.beq t 9 then some ti9 else none)else(bif Nat.beq t 23 then some GG else none)))else(bif Nat.ble t 25 then(bif Nat.ble t 24 then(bif Nat.beq t 24 then some GH else none)else(bif Nat.beq t 25 then some GI else none))else(bif Nat.ble t 26 then(bif Nat.beq t 26 then some GJ else none)else(bif Nat.ble t 27 then(bif Nat.beq t 27 then some GK else none)else(bif Nat.beq t 28 then some GL else none)))))else(bif Nat.ble t 33 then(bif Nat.ble t 31 then(bif Nat.ble t 29 then(bif Nat.beq t 29 then some GM else none)else(bif Nat.beq t 31 then some GN else none))else(bif Nat.ble t 32 then(bif Nat.beq t 32 then some GO else none)else(bif Nat.beq t 33 then some GP else none)))else(bif Nat.ble t 38 then(bif Nat.ble t 35 then(bif Nat.beq t 35 then some GQ else none)else(bif Nat.beq t 38 then some ti3 else none))else(bif Nat.ble t 44 then(bif Nat.beq t 44 then some GR else none)else(bif Nat.ble t 47 then(bif Nat.beq t 47 then some GS else none)else(bif Nat.beq t 58 then some GU else none))))))else(bif Nat.ble t 111 then(bif Nat.ble t 71 then(bif Nat.ble t 67 then(bif Nat.ble t 62 then(bif Nat.beq t 62 then some GV else none)else(bif Nat.beq t 67 then some GW else none))else(bif Nat.ble t 69 then(bif Nat.beq t 69 then some GX else none)else(bif Nat.beq t 71 then some GY else none)))else(bif Nat.ble t 90 then(bif Nat.ble t 85 then(bif Nat.beq t 85 then some GZ else none)else(bif Nat.beq t 90 then some G0 else none))else(bif Nat.ble t 97 then(bif Nat.beq t 97 then some G1 else none)else(bif Nat.ble t 109 then(bif Nat.beq t 109 then some Ba else none)else(bif Nat.beq t 111 then some Bb else none)))))else(bif Nat.ble t 125 then(bif Nat.ble t 115 then(bif Nat.ble t 113 then(bif Nat.beq t 113 then some Bc else none)else(bif Nat.beq t 115 then some Bd else none))else(bif Nat.ble t 116 then(bif Nat.beq t 116 then some Be else none)else(bif Nat.beq t 125 then some Bf else none)))else(bif Nat.ble t 140 then(bif Nat.ble t 135 then(bif Nat.beq t 135 then some ti3 else none)else(bif Nat.beq t 140 then some Bg else none))else(bif Nat.ble t 144 then(bif Nat.beq t 144 then some Bh else none)else(bif Nat.ble t 170 then(bif Nat.beq t 170 then some Bi else none)else(bif Nat.beq t 172 then some Bj else none)))))))
theorem Ke:cr Tryz.prog 3=some ti3:=by kernel_rfl
theorem Kf:cr Tryz.prog 4=some ti4:=by kernel_rfl
theorem Kg:cr Tryz.prog 9=some ti9:=by kernel_rfl
theorem G3:cr Tryz.prog 23=some GG:=by kernel_rfl
theorem G4:cr Tryz.prog 24=some GH:=by kernel_rfl
theorem G5:cr Tryz.prog 25=some GI:=by kernel_rfl
theorem G6:cr Tryz.prog 26=some GJ:=by kernel_rfl
theorem G7:cr Tryz.prog 27=some GK:=by kernel_rfl
theorem G8:cr Tryz.prog 28=some GL:=by kernel_rfl
theorem G9:cr Tryz.prog 29=some GM:=by kernel_rfl
theorem G_:cr Tryz.prog 31=some GN:=by kernel_rfl
theorem Ha:cr Tryz.prog 32=some GO:=by kernel_rfl
theorem Hb:cr Tryz.prog 33=some GP:=by kernel_rfl
theorem Hc:cr Tryz.prog 35=some GQ:=by kernel_rfl
theorem He:cr Tryz.prog 38=some ti3:=by kernel_rfl
theorem Hf:cr Tryz.prog 44=some GR:=by kernel_rfl
theorem Hg:cr Tryz.prog 47=some GS:=by kernel_rfl
theorem Hh:cr Tryz.prog 58=some GU:=by kernel_rfl
theorem Hi:cr Tryz.prog 62=some GV:=by kernel_rfl
theorem Hj:cr Tryz.prog 67=some GW:=by kernel_rfl
theorem Hk:cr Tryz.prog 69=some GX:=by kernel_rfl
theorem Hl:cr Tryz.prog 71=some GY:=by kernel_rfl
theorem Hm:cr Tryz.prog 85=some GZ:=by kernel_rfl
theorem Hn:cr Tryz.prog 90=some G0:=by kernel_rfl
theorem Ho:cr Tryz.prog 97=some G1:=by kernel_rfl
theorem Eb:cr Tryz.prog 109=some Ba:=by kernel_rfl
theorem Ec:cr Tryz.prog 111=some Bb:=by kernel_rfl
theorem Ed:cr Tryz.prog 113=some Bc:=by kernel_rfl
theorem Ee:cr Tryz.prog 115=some Bd:=by kernel_rfl
theorem Ef:cr Tryz.prog 116=some Be:=by kernel_rfl
theorem Eg:cr Tryz.prog 125=some Bf:=by kernel_rfl
theorem Eh:cr Tryz.prog 135=some ti3:=by kernel_rfl
theorem Ei:cr Tryz.prog 140=some Bg:=by kernel_rfl
theorem Ej:cr Tryz.prog 144=some Bh:=by kernel_rfl
theorem Ek:cr Tryz.prog 170=some Bi:=by kernel_rfl
theorem El:cr Tryz.prog 172=some Bj:=by kernel_rfl
theorem aC:Tis.ok ts Tryz.prog:=(Tis.ok_node (Tis.ok_node (Tis.ok_node (Tis.ok_node (Tis.ok_node (Tis.ok_leaf Ke) (Tis.ok_leaf Kf)) (Tis.ok_node (Tis.ok_leaf Kg) (Tis.ok_leaf G3))) (Tis.ok_node (Tis.ok_node (Tis.ok_leaf G4) (Tis.ok_leaf G5)) (Tis.ok_node (Tis.ok_leaf G6) (Tis.ok_node (Tis.ok_leaf G7) (Tis.ok_leaf G8))))) (Tis.ok_node (Tis.ok_node (Tis.ok_node (Tis.ok_leaf G9) (Tis.ok_leaf G_)) (Tis.ok_node (Tis.ok_leaf Ha) (Tis.ok_leaf Hb))) (Tis.ok_node (Tis.ok_node (Tis.ok_leaf Hc) (Tis.ok_leaf He)) (Tis.ok_node (Tis.ok_leaf Hf) (Tis.ok_node (Tis.ok_leaf Hg) (Tis.ok_leaf Hh)))))) (Tis.ok_node (Tis.ok_node (Tis.ok_node (Tis.ok_node (Tis.ok_leaf Hi) (Tis.ok_leaf Hj)) (Tis.ok_node (Tis.ok_leaf Hk) (Tis.ok_leaf Hl))) (Tis.ok_node (Tis.ok_node (Tis.ok_leaf Hm) (Tis.ok_leaf Hn)) (Tis.ok_node (Tis.ok_leaf Ho) (Tis.ok_node (Tis.ok_leaf Eb) (Tis.ok_leaf Ec))))) (Tis.ok_node (Tis.ok_node (Tis.ok_node (Tis.ok_leaf Ed) (Tis.ok_leaf Ee)) (Tis.ok_node (Tis.ok_leaf Ef) (Tis.ok_leaf Eg))) (Tis.ok_node (Tis.ok_node (Tis.ok_leaf Eh) (Tis.ok_leaf Ei)) (Tis.ok_node (Tis.ok_leaf Ej) (Tis.ok_node (Tis.ok_leaf Ek) (Tis.ok_leaf El)))))))
@[go_sem] theorem ts_3:ts 3=some ti3:=(rfl)
@[go_sem] theorem ts_4:ts 4=some ti4:=(rfl)
@[go_sem] theorem ts_9:ts 9=some ti9:=(rfl)
@[go_sem] theorem ts_23:ts 23=some GG:=(rfl)
@[go_sem] theorem ts_24:ts 24=some GH:=(rfl)
@[go_sem] theorem ts_25:ts 25=some GI:=(rfl)
@[go_sem] theorem ts_26:ts 26=some GJ:=(rfl)
@[go_sem] theorem ts_27:ts 27=some GK:=(rfl)
@[go_sem] theorem ts_28:ts 28=some GL:=(rfl)
@[go_sem] theorem ts_29:ts 29=some GM:=(rfl)
@[go_sem] theorem ts_31:ts 31=some GN:=(rfl)
@[go_sem] theorem ts_32:ts 32=some GO:=(rfl)
@[go_sem] theorem ts_33:ts 33=some GP:=(rfl)
@[go_sem] theorem ts_35:ts 35=some GQ:=(rfl)
@[go_sem] theorem ts_38:ts 38=some ti3:=(rfl)
@[go_sem] theorem ts_44:ts 44=some GR:=(rfl)
@[go_sem] theorem ts_47:ts 47=some GS:=(rfl)
@[go_sem] theorem ts_58:ts 58=some GU:=(rfl)
@[go_sem] theorem ts_62:ts 62=some GV:=(rfl)
@[go_sem] theorem ts_67:ts 67=some GW:=(rfl)
@[go_sem] theorem ts_69:ts 69=some GX:=(rfl)
@[go_sem] theorem ts_71:ts 71=some GY:=(rfl)
@[go_sem] theorem ts_85:ts 85=some GZ:=(rfl)
@[go_sem] theorem ts_90:ts 90=some G0:=(rfl)
@[go_sem] theorem ts_97:ts 97=some G1:=(rfl)
@[go_sem] theorem QP:ts 109=some Ba:=(rfl)
@[go_sem] theorem QQ:ts 111=some Bb:=(rfl)
@[go_sem] theorem QR:ts 113=some Bc:=(rfl)
@[go_sem] theorem QS:ts 115=some Bd:=(rfl)
@[go_sem] theorem QT:ts 116=some Be:=(rfl)
@[go_sem] theorem QU:ts 125=some Bf:=(rfl)
@[go_sem] theorem QV:ts 135=some ti3:=(rfl)
@[go_sem] theorem QW:ts 140=some Bg:=(rfl)
@[go_sem] theorem QX:ts 144=some Bh:=(rfl)
@[go_sem] theorem QY:ts 170=some Bi:=(rfl)
@[go_sem] theorem QZ:ts 172=some Bj:=(rfl)
attribute [go_sem] ti3 ti4 ti9 GG GH GI GJ GK GL GM GN GO GP GQ GR GS GU GV GW GX GY GZ G0 G1 Ba Bb Bc Bd Be Bf Bg Bh Bi Bj
theorem mixed:Tryz.prog.follows .mixedOrders=true:=by kernel_rfl
def fS:List SV->Option Con
 | [.v (.iface t (.int .i64 e))] =>bif Nat.beq t 135 then some (.det True (.i e))else none
 |_=>none
theorem qL:FnOk Tryz.prog 57 fS:=by
 have hG:ConsOk Tryz.prog (mkG [] []):=aV (by simp) (by simp);refine cj [.o] mixed aC hG (fn:=Tryz.f57) (c:=ag Tryz.f57) kr kr kr kr fun l con h hp=>?_;unfold fS at h;split at h
 ·rename_i t e;cases ht:Nat.beq t 135 with
  |false=>rw[ht]at h;cases h
  |true=>
   rw[ht]at h;cases h;have ht':=Nat.eq_of_beq_eq_true ht;subst ht';refine⟨nbl rfl,L0,by unfold ag Tryz.f57;simp only[ap,and_self],?_⟩;unfold ag Tryz.f57;simp only[go_sem,true_imp_iff,false_imp_iff,Nat.reduceBEq,Nat.reduceLeDiff,Nat.reduceAdd,Nat.reduceSub,Nat.reduceMul,true_and,and_true,implies_true,reduceCtorEq]
 ·cases h
def Kh:Value->Option SV
 | .iface t (.int .i64 e) =>bif Nat.beq t 135 then some (.i e)else none
 |_=>none
theorem Em:ID Tryz.prog 56 Kh:=by
 obtain⟨fn,hfn,hbody,hn,hres⟩:∃ fn,Tryz.prog.funcs[56]? =some fn/\fn.body=some (ag Tryz.f56)/\fn.ntmps=7/\fn.results= #[]:=⟨Tryz.f56,by kernel_rfl,by kernel_rfl,by kernel_rfl,by kernel_rfl⟩;have hG:ConsOk Tryz.prog (mkG [(57,fS)] []):=aV (by
  intro x hx;simp only[List.mem_cons,List.not_mem_nil,or_false]at hx;rcases hx with rfl;exact qL) (by simp)
 refine⟨fun args w=>by kernel_rfl,fun p w=>?_,?_⟩
 ·refine callsDIn_of_wpSIn hfn hbody trivial fun c₀ cs hu=>?_;unfold ag Tryz.f56;refine wpSIn_seq (wpSIn_region ?_);simp[wpOpsSIn,go_sem,recoverD,hu,hn,Exit.thenS,Oper.about,Region.wanted];refine wpSIn_seq (wpSIn_region ?_);simp[wpOpsSIn,go_sem,recoverD,hu,Exit.thenS,Oper.about,Region.wanted];refine wpSIn_cond (t:=false) (by simp[Act.eval]) ?_;simp only[Bool.false_eq_true,if_false];refine wpSIn_of_wpIn rfl (wpIn_skip ?_);cases c₀;simp_all [bodyPostS,results]
 ·intro x s hx F own w h id hd b y hfw hp hob ho hpb;unfold Kh at hx;split at hx
  ·rename_i t e;cases ht:Nat.beq t 135 with
   |false=>rw[ht]at hx;cases hx
   |true=>
    rw[ht]at hx;cases hx;have ht':=Nat.eq_of_beq_eq_true ht;subst ht';refine callsDIn_of_wpSIn hfn hbody trivial fun c₀ cs hu=>?_;unfold ag Tryz.f56;refine wpSIn_seq (wpSIn_region ?_);simp[wpOpsSIn,go_sem,recoverD,hu,hn,Exit.thenS,Oper.about,Region.wanted];refine wpSIn_seq (wpSIn_region ?_);simp[wpOpsSIn,go_sem,recoverD,hu,Exit.thenS,Oper.about,Region.wanted];refine wpSIn_cond (t:=true) (by simp[Act.eval]) ?_;simp only[if_true];refine wpSIn_of_wpIn rfl ?_;have hr:StRel F { w:=w,own:=own} 7 own ⟨[(0,.ptr id 0),(1,.v (.iface 135 (.int .i64 e)))],h⟩ { tmps:= #[.pointer (some ⟨b,0,none⟩),.iface 135 (.int .i64 e),.iface 135 (.int .i64 e),.iface 135 (.int .i64 e),.bool true,undef,undef],defers:=[]} w:=by
     refine⟨rfl,Dfr.nil,hp,Fr.refl { w:=w,own:=own},fun t=>?_⟩;rw[jo];by_cases h0:0=t
     ·subst h0;rw[if_pos rfl];exact .ptr ho hpb
     ·rw[if_neg h0,jo];by_cases h1:1=t
      ·subst h1;rw[if_pos rfl];exact .v _
      ·rw[if_neg h1];exact .any _
    refine wpIn_mono (Aa (ts:=ts) (L:=L0) (Q:=fun st=>st.h=bf h id (.cells [.i e])) mixed aC hG kr ?_ hr) ?_
    ·simp only[go_sem,hob,oW (h:=h) (i:=id) (o:=.cells [.v (.int .i64 e)]) rfl hfw,fS,Nat.reduceBEq,Nat.reduceLeDiff,Nat.reduceAdd,true_and,and_true,true_imp_iff]
    ·rintro ex a' w' ⟨rfl,own1,st1,hst1,hh⟩;have hd0:a'.defers=[]:=by
      obtain⟨ms,Ds,q0,q1,q2,q3⟩:=hst1.defers;cases Ds with
      |nil=>rw[q0];simp at q1;simp[q1]
      |cons D r=>
       obtain⟨m1,m2,_⟩:=q3 D (by simp);have:=hp.foreign D m2;simp only at m1;omega
     refine⟨hd0,.panicking [{ v:=.iface 135 (.int .i64 e),recovered:=true}],?_,_,by simp[results,hres];rfl,⟨_,rfl⟩,rfl,own1,hh▸hst1.hp,hst1.fr⟩;cases c₀;simp_all
  ·cases hx
attribute [go_sem] fS
abbrev SV.u (n:Nat):SV:=.v (.int .u64 (n:Int))
def Ac (ps:List (Nat×(List SV->Option Con)))(os:List (Nat×(List SV->List Ob->Option HCon)))(Y:List SV->Res->Option YCon):Cons:=⟨mkP ps,mkO os,Y⟩
@[go_sem] theorem Q0 {ps:List (Nat×(List SV->Option Con))}{os:List (Nat×(List SV->List Ob->Option HCon))}{Y:List SV->Res->Option YCon}:(Ac ps os Y).p=mkP ps:=(rfl)
@[go_sem] theorem Q1 {ps:List (Nat×(List SV->Option Con))}{os:List (Nat×(List SV->List Ob->Option HCon))}{Y:List SV->Res->Option YCon}:(Ac ps os Y).o=mkO os:=(rfl)
@[go_sem] theorem Q2 {ps:List (Nat×(List SV->Option Con))}{os:List (Nat×(List SV->List Ob->Option HCon))}{Y:List SV->Res->Option YCon}:(Ac ps os Y).y=Y:=(rfl)
theorem Bk {P:Program}{ps:List (Nat×(List SV->Option Con))}{os:List (Nat×(List SV->List Ob->Option HCon))}{Y:List SV->Res->Option YCon}(h1:∀ x∈ps,FnOk P x.1 x.2)(h2:∀ x∈os,FnOkO P x.1 x.2)(h3:YOk P Y):ConsOk P (Ac ps os Y):=⟨zX ps h1,zY os h2,h3⟩
def C90:List SV->List Ob->Option HCon:=fun l h=>noH h ((pU fun n=>pU fun d=>pE { α:=Unit,pre:=True,post:=fun _=>True,res:=fun _=>.ret (.fn 142 [] [.ptr 0 0,.ptr 1 0]) [.cells [.v (.int .u64 n)],.cells [.v (.int .u64 d)]]}) l)
theorem Ki:FnOkO Tryz.prog 116 C90:=by
 have hG:ConsOk Tryz.prog (mkG [] []):=aV (by simp) (by simp);refine yk mixed aC hG (fn:=Tryz.f116) (c:=ag Tryz.f116) kr kr kr kr fun l o con h hp=>?_;unfold C90 at h;obtain⟨rfl,h⟩:=Gz h;obtain⟨n,l0,rfl,h0⟩:=wN h;obtain⟨d,l1,rfl,h1⟩:=wN h0;obtain⟨rfl,rfl⟩:=zZ h1;refine⟨nbl rfl,L0,by unfold ag Tryz.f116;simp only[ap,and_self],?_⟩;unfold ag Tryz.f116;simp only[go_sem,true_imp_iff,decide_eq_true_eq,Nat.reduceBEq,Nat.reduceLeDiff,Nat.reduceAdd,Nat.reduceSub,Nat.reduceMul,true_and,and_true,implies_true];refine⟨(),_,_,[0,1],rfl,?_⟩;simp only[go_sem,Nat.reduceBEq,Nat.reduceLeDiff,Nat.reduceAdd,true_and,and_true];exact⟨rfl,rfl⟩
def qM:Nat->Nat->Nat->List Nat
 |0,n,d=>if n=0 then []else [n,d]
 |f+1,n,d=>if n=0 then []else n::(if n % max d 1=0 then [d]else qM f d (n % max d 1))
def j8 (f n d:Nat):List (List SV):=(qM f n d).map fun x=>[SV.u x]
theorem En (f d:Nat):j8 f 0 d=[]:=by cases f <;>rfl
theorem Eo {f n d:Nat}(hn:n≠0)(hf:d<=f):∃ T,j8 f n d=[SV.u n]::T/\(n % max d 1=0->T=[[SV.u d]])/\(n % max d 1≠0->∃ f',T=j8 f' d (n % max d 1)/\n % max d 1<=f'/\n % max d 1<d):=by
 cases f with
 |zero=>
  have hd:d=0:=by omega
  subst hd;refine⟨[[SV.u 0]],by simp[j8,qM,hn],fun _=>rfl,fun h=>?_⟩;exfalso;apply h;simp[Nat.mod_one]
 |succ f=>
  by_cases h0:n % max d 1=0
  ·exact⟨[[SV.u d]],by simp[j8,qM,hn,h0],fun _=>rfl,fun h=>absurd h0 h⟩
  ·refine⟨j8 f d (n % max d 1),by simp[j8,qM,hn,h0],fun h=>absurd h h0,fun _=>⟨f,rfl,?_⟩⟩;have hlt:n % max d 1<max d 1:=Nat.mod_lt _ (by omega);have hd:1<=d:=by
    rcases Nat.eq_zero_or_pos d with h|h
    ·subst h;exfalso;apply h0;simp[Nat.mod_one]
    ·exact h
   omega
theorem Ep (n d:Nat):((n:Int).tmod (if(d:Int) <1 then 1 else(d:Int)))=((n % max d 1:Nat):Int):=by
 have e:(if(d:Int) <1 then(1:Int)else(d:Int))=((max d 1:Nat):Int):=by split <;>omega
 rw[e,Int.tmod_eq_emod_of_nonneg (by omega)];rfl
open Classical in
theorem Kj (n0 d0:Nat):z6 Tryz.prog 142 (fun y=>[y,.ptr 1 0,.ptr 2 0]) [.cells [SV.u n0],.cells [SV.u d0]] (j8 d0 n0 d0):=by
 refine IA (fun r hr hy=>?_) (fun args w=>by kernel_rfl);have hG:ConsOk Tryz.prog (Ac [] [] (itY (j8 d0 n0 d0) r)):=Bk (by simp) (by simp) hy;refine⟨fun l h=>if l=[.os 0,.ptr 1 0,.ptr 2 0]/\h=[.ab (r 1),.cells [SV.u n0],.cells [SV.u d0]]then some { α:=Nat,pre:=True,post:=fun j=>j=0\/j=(j8 d0 n0 d0).length+1,res:=fun j=>.ret (.tup []) [.ab (r j),.dead,.dead]}else none,
  ?_,_,if_pos ⟨rfl,rfl⟩,trivial,fun j hj=>⟨_,j,_,rfl,hj⟩⟩
 refine yk mixed aC hG (fn:=Tryz.f142) (c:=ag Tryz.f142) kr kr kr kr fun l o con h hp=>?_;split at h
 ·rename_i hlo;obtain⟨rfl,rfl⟩:=hlo;cases h;refine⟨nbl rfl,fun id st=>bif Nat.beq id 0 then some { α:=Nat×Bool,pre:=lk 0 st.t=.os 0/\lk 1 st.t=.ptr 1 0/\lk 2 st.t=.ptr 2 0/\st.h=[.ab (r 1),.cells [SV.u n0],.cells [SV.u d0]],post:=fun j=>j.1=0\/j.1=(j8 d0 n0 d0).length+1,ex:=fun j=>bif j.2 then .ret else .normal,out:=fun j=>⟨[],[.ab (r j.1),.dead,.dead]⟩:LCon}else none,?_,?_⟩
  ·unfold ag Tryz.f142;simp only[ap,true_and,and_true];refine yl mixed aC hG kr fun st lc hC hp=>?_;simp only[go_sem,Nat.reduceBEq,Option.some.injEq]at hC;subst hC;obtain⟨t,h⟩:=st;dsimp only at hp;obtain⟨h0,h1,h2,rfl⟩:=hp;refine⟨Nat×Nat×Nat×Nat,fun x=>⟨[(0,.os 0),(1,.ptr 1 0),(2,.ptr 2 0)],[.ab (r (x.1+1)),.cells [SV.u x.2.2.1],.cells [SV.u x.2.2.2]]⟩,fun x=>x.2.2.2<=x.2.1/\(j8 d0 n0 d0).drop x.1=j8 x.2.1 x.2.2.1 x.2.2.2/\x.1<=(j8 d0 n0 d0).length,fun x=>x.2.2.2,(0,d0,n0,d0),[0,1,2],⟨Nat.le_refl _,rfl,Nat.zero_le _⟩,Nat.le_refl _,?_,?_⟩
   ·simp only[go_sem,h0,h1,h2,Nat.reduceBEq,Nat.reduceLeDiff,Nat.reduceAdd,true_and,and_true];decide
   ·rintro⟨k,f,n,d⟩ ⟨hf,hdrop,hk⟩;simp only at hf hdrop hk;refine⟨L0,_,by simp only[ap,and_self],fun _ _ q=>q,?_⟩;simp only[go_sem,D6 hr,true_imp_iff,decide_eq_true_eq,Ep,Bool.false_eq_true,false_imp_iff,Nat.reduceBEq,Nat.reduceLeDiff,Nat.reduceAdd,Nat.reduceSub,Nat.reduceMul,true_and,and_true,implies_true];have hget:∀ (l:List (List SV)) (j:Nat),l=(j8 d0 n0 d0).drop k->(j8 d0 n0 d0)[k+j]? =l[j]?:=fun l j e=>by rw[e,List.getElem?_drop]
    have hlen:(j8 f n d).length=(j8 d0 n0 d0).length - k:=by rw[<-hdrop,List.length_drop]
    refine⟨fun hn=>?_,fun hn=>?_⟩
    ·have hn':n≠0:=by simpa using hn
     obtain⟨T,e1,e2,e3⟩:=Eo hn' hf;have hT:(j8 d0 n0 d0).drop (k+1)=T:=by rw[<-List.drop_drop,hdrop,e1];rfl
     have h0':=hget _ 0 hdrop.symm;rw[e1]at h0';have hk1:k+1<=(j8 d0 n0 d0).length:=by
      have:=(List.getElem?_eq_some_iff.1 h0').1;omega
     refine⟨h0',⟨fun _=>⟨by split <;>omega,rfl,fun h2=>?_,fun h2=>?_⟩,fun h2=>?_⟩,?_⟩
     ·have h3:n % max d 1=0:=by
       have:=eq_of_beq h2;generalize n % max d 1=q at this |-;omega
      have hT2:=e2 h3;have hl2:(j8 d0 n0 d0).length=k+2:=by
       have:=congrArg List.length hT;rw[hT2,List.length_drop]at this;simp at this;omega
      refine⟨?_,⟨(k+1+2,true),[0,1,2],.inr (by rw[hl2]),rfl,⟨rfl,rfl,rfl⟩,by simp[un,wh,sO,unp,ae,bZ,mr,mM]⟩,⟨(0,true),[0,1,2],.inl rfl,rfl,⟨rfl,rfl,rfl⟩,by simp[un,wh,sO,unp,ae,bZ,mr,mM]⟩⟩;have:(j8 d0 n0 d0)[k+1]? =T[0]?:=by rw[<-hT,List.getElem?_drop]
      rw[this,hT2];rfl
     ·have h3:n % max d 1≠0:=fun e=>by rw[e]at h2;simp at h2
      obtain⟨f',m1,m2,m3⟩:=e3 h3;exact⟨(k+1,f',d,n % max d 1),[0,1,2],⟨m2,by rw[hT,m1],hk1⟩,m3,⟨rfl,rfl,rfl⟩,by simp[un,wh,sO,unp,ae,bZ,mr,mM,nth,gQ,ren,wkL,xH]⟩
     ·exact absurd hn (by rw[h2];simp)
     ·exact⟨(0,false),[0,1,2],.inl rfl,rfl,⟨rfl,rfl,rfl⟩,by simp[un,wh,sO,unp,ae,bZ,mr,mM]⟩
    ·have hn':n=0:=by simpa using hn
     subst hn';rw[En]at hlen;simp at hlen;exact⟨by simpa using hn,(k+1,false),[0,1,2],.inr (by show k+1=_;omega),rfl,⟨rfl,rfl,rfl⟩,by simp[un,wh,sO,unp,ae,bZ,mr,mM]⟩
  ·unfold ag Tryz.f142;simp only[go_sem,true_imp_iff,decide_eq_true_eq,Nat.reduceBEq,Nat.reduceLeDiff,Nat.reduceAdd,Nat.reduceSub,Nat.reduceMul,true_and,and_true,implies_true];rintro⟨j,b⟩ hj;cases b
   ·simp only[go_sem];exact⟨j,_,_,[0,1,2],hj,rfl,Nat.le_refl 3,by simp only[go_sem,Nat.reduceBEq,Nat.reduceLeDiff,Nat.reduceAdd,true_and,and_true];decide⟩
   ·simp only[go_sem];exact⟨j,_,_,[0,1,2],hj,rfl,Nat.le_refl 3,by simp only[go_sem,Nat.reduceBEq,Nat.reduceLeDiff,Nat.reduceAdd,true_and,and_true];decide⟩
 ·cases h
def yw (n d:Nat):Nat:=if d=0 then n else(qM d n d).getLastD d
def C83:List SV->Option Con:=pU fun n=>pU fun d=>pE (.det (0<=n/\0<=d) (SV.u (yw n.toNat d.toNat)))
theorem Er:FnOk Tryz.prog 88 C83:=by
 have hG:ConsOk Tryz.prog (mkG [] [(116,C90)]):=aV (by simp) (by
  intro x hx;simp only[List.mem_cons,List.not_mem_nil,or_false]at hx;rcases hx with rfl;exact Ki)
 refine DV false mixed aC hG (fn:=Tryz.f88) (c:=ag Tryz.f88) kr kr kr kr fun l con h hp=>?_;unfold C83 at h;obtain⟨n',l0,rfl,h0⟩:=wN h;obtain⟨d',l1,rfl,h1⟩:=wN h0;obtain⟨rfl,rfl⟩:=zZ h1;clear h h0 h1;obtain⟨hn,hd⟩:=hp;obtain⟨n,rfl⟩:=Int.eq_ofNat_of_zero_le hn;obtain⟨d,rfl⟩:=Int.eq_ofNat_of_zero_le hd;refine⟨nbl rfl,fun id st=>bif Nat.beq id 0 then some { α:=Unit,pre:=st.h=[.cells [SV.u d],.cells [SV.u n],.cells [SV.u d]]/\lk 12 st.t=.fn 142 [] [.ptr 1 0,.ptr 2 0]/\lk 4 st.t=.ptr 0 0,post:=fun _=>True,ex:=fun _=>.normal,out:=fun _=>⟨[(4,.ptr 0 0)],[.cells [SV.u ((qM d n d).getLastD d)],.dead,.dead]⟩:LCon}else none,?_,?_⟩
 ·unfold ag Tryz.f88;simp only[ap,true_and,and_true];refine yq mixed aC hG (by decide) (by decide) kr kr fun st lc hC hp=>?_;simp only[go_sem,Nat.reduceBEq,Option.some.injEq]at hC;subst hC;obtain⟨t,h⟩:=st;dsimp only at hp;obtain⟨rfl,h12,h4⟩:=hp;refine⟨142,[.ptr 1 0,.ptr 2 0],j8 d n d,Nat,[(4,.ptr 0 0)],fun v=>[.cells [SV.u v],.dead,.dead],fun k v=>v=((qM d n d).take k).getLastD d,fun _ _=>False,d,[0,1,2],h12,rfl,Nat.le_refl _,?_,Kj n d,?_,?_,fun _ h=>h.elim,fun _ _ h=>h.elim⟩
  ·show Sub [0,1,2] 3 ⟨t,[.cells [SV.u d],.dead,.dead]⟩ ⟨[(4,.ptr 0 0)],[.cells [SV.u d],.dead,.dead]⟩;simp only[go_sem,h4,Nat.reduceBEq,Nat.reduceLeDiff,Nat.reduceAdd,true_and,and_true];decide
  ·intro k y args hk hI;unfold j8 at hk;rw[List.getElem?_map,Option.map_eq_some_iff]at hk;obtain⟨x,hx,rfl⟩:=hk;refine⟨rfl,L0,_,fun l=>by simp only[ap],fun l=>by simp only[ap],fun _ _ q=>q,?_⟩;show exec ts _ L0 _ ⟨[(13,SV.u x),(4,SV.ptr 0 0)],[.cells [SV.u y],.dead,.dead]⟩ _;simp only[go_sem,true_imp_iff,Nat.reduceBEq,Nat.reduceLeDiff,Nat.reduceAdd,true_and,and_true];refine⟨x,[0,1,2],?_,Nat.le_refl 3,?_⟩
   ·have hlt:=(List.getElem?_eq_some_iff.1 hx).1;have hx2:=(List.getElem?_eq_some_iff.1 hx).2;show x=((qM d n d).take (k+1)).getLastD d;rw[List.take_succ_eq_append_getElem hlt,hx2];simp[List.getLastD_concat]
   ·simp only[go_sem,Nat.reduceBEq,Nat.reduceLeDiff,Nat.reduceAdd,true_and,and_true];decide
  ·intro y hI;refine⟨(),[0,1,2],trivial,rfl,Nat.le_refl _,?_⟩;have hy:y=(qM d n d).getLastD d:=by rw[hI,List.take_of_length_le (by simp[j8])]
   subst hy;show Sub [0,1,2] 3 ⟨[(4,.ptr 0 0)],[.cells [SV.u _],.dead,.dead]⟩ ⟨[(4,.ptr 0 0)],[.cells [SV.u _],.dead,.dead]⟩;simp only[go_sem,Nat.reduceBEq,Nat.reduceLeDiff,Nat.reduceAdd,true_and,and_true];decide
 ·unfold ag Tryz.f88;simp only[go_sem,C90,true_imp_iff,decide_eq_true_eq,Bool.false_eq_true,false_imp_iff,Nat.reduceBEq,Nat.reduceLeDiff,Nat.reduceAdd,Nat.reduceSub,Nat.reduceMul,true_and,and_true,implies_true];refine⟨fun h=>?_,fun h _ _=>?_⟩
  ·have h':d=0:=by simpa using h
   simp[yw,h']
  ·have h':d≠0:=by simpa using h
   simp[yw,h']
attribute [go_sem] C83
end Go.Sx
end
section
namespace Go.Sx
open Go.RowKit
inductive NilS:St->St->Prop where
 |refl (st:St):NilS st st
 |cell {st:St} {t:List (Nat×SV)} {h:List Ob} {i j:Nat} {l:List SV} (o:Ob):NilS st ⟨t,h⟩->ae h i=.cells l->l[j]? =some (.v (.slice none 0 0))->((∃ k,o=.row k [])\/∃ k,o=.grid k [])->NilS st ⟨t,bf h i (.cells (l.set j (.os h.length)))++[o]⟩
 |slot {st:St} {t:List (Nat×SV)} {h:List Ob} {i:Nat} (o:Ob):NilS st ⟨t,h⟩->lk i t=.v (.slice none 0 0)->((∃ k,o=.row k [])\/∃ k,o=.grid k [])->NilS st ⟨(i,.os h.length)::t,h++[o]⟩
 |slotE {st:St} {t:List (Nat×SV)} {h:List Ob} {i:Nat} (k:Tag):NilS st ⟨t,h⟩->lk i t=.e0->NilS st ⟨(i,.os h.length)::t,h++[.row k []]⟩
section
variable {P:Program}{F:Nat->Prop}{w0:Bs}{N:Nat}
theorem vA (h:List Ob)(o:Ob):ae (h++[o]) h.length=o:=by rw[jH,if_neg (by omega)];simp[ae]
theorem Bl {own:Own}{h:List Ob}{a:Act}{w:World}{t:List (Nat×SV)}(hr:StRel F w0 N own ⟨t,h⟩ a w)(o:Ob)(ho:(∃ k,o=.row k [])\/∃ k,o=.grid k []):
  ∃ own',StRel F w0 N own' ⟨t,h++[o]⟩ a w/\(∀ id hd,own id=some hd->own' id=some hd)/\own' h.length=some { v:=.slice none 0 0}:=by
 let own':Own:=fun id=>if id=h.length then some { v:=.slice none 0 0}else own id
 have hsub:∀ id hd,own id=some hd->own' id=some hd:=fun id hd e=>by
  have:id≠h.length:=by have:=hr.hp.dom id hd e;simp only at this;omega
  simp only[own',if_neg this];exact e
 have hinv:∀ id hd b,own' id=some hd->b∈hd.bs->own id=some hd:=fun id hd b e hb=>by
  by_cases hi:id=h.length
  ·simp only[own',if_pos hi,Option.some.injEq]at e;subst e;cases hb
  ·simpa only[own',if_neg hi]using e
 have hc:Carries F own w F own' w:=⟨fun id hd e=>⟨hd,hsub id hd e,.refl _⟩,fun b _ hn=>⟨by
  rintro (hf| ⟨id,hd,e,hb⟩)
  ·exact hn (.inl hf)
  ·exact hn (.inr ⟨id,hd,hinv id hd b e hb,hb⟩),rfl⟩⟩
 refine⟨own',⟨hr.size,hr.defers,⟨fun id hd e=>?_,hr.hp.foreign,fun id hd b e hb=>hr.hp.apart id hd b (hinv id hd b e hb) hb,fun i j hi hj b e1 e2 b1 b2=>hr.hp.inj i j hi hj b (hinv i hi b e1 b1) (hinv j hj b e2 b2) b1 b2,fun id hd b e hb=>hr.hp.lt id hd b (hinv id hd b e hb) hb,fun id hd=>?_⟩,
  ⟨fun id hd e=>?_,fun id hd b e hb=>hr.fr.base id hd b (hinv id hd b e hb) hb,hr.fr.os,hr.fr.tape,hr.fr.output,hr.fr.size,hr.fr.block⟩,fun t=>(hr.slots t).carry hc⟩,hsub,by simp[own']⟩
 ·simp only[List.length_append,List.length_cons,List.length_nil];by_cases hi:id=h.length
  ·omega
  ·simp only[own',if_neg hi]at e;have:=hr.hp.dom id hd e;simp only at this;omega
 ·simp only at hd |-;by_cases hi:id<h.length
  ·rw[jH,if_pos hi]at hd |-;obtain⟨hd',e1,e2⟩:=hr.hp.obs id hd;exact⟨hd',hsub id hd' e1,e2.carry hc (Nat.le_refl _) fun _ _=>rfl⟩
  ·by_cases hi2:id=h.length
   ·subst hi2;rw[vA];refine⟨_,by simp[own'];rfl,?_⟩;rcases ho with⟨k,rfl⟩ | ⟨k,rfl⟩
    ·exact .inl ⟨none,rfl,rfl,rfl⟩
    ·exact .inl ⟨rfl,rfl,rfl,rfl⟩
   ·rw[g_ (by simp;omega)]at hd;cases hd
 ·obtain⟨hd',e1,e2⟩:=hr.fr.ids id hd e;exact⟨hd',hsub id hd' e1,e2⟩
theorem Es {own:Own}{h:List Ob}{a:Act}{w:World}{t:List (Nat×SV)}(hr:StRel F w0 N own ⟨t,h⟩ a w)(k:Tag)(ad:Option Addr):
  ∃ own',StRel F w0 N own' ⟨t,h++[.row k []]⟩ a w/\(∀ id hd,own id=some hd->own' id=some hd)/\own' h.length=some { v:=.slice ad 0 0}:=by
 let own':Own:=fun id=>if id=h.length then some { v:=.slice ad 0 0}else own id
 have hsub:∀ id hd,own id=some hd->own' id=some hd:=fun id hd e=>by
  have:id≠h.length:=by have:=hr.hp.dom id hd e;simp only at this;omega
  simp only[own',if_neg this];exact e
 have hinv:∀ id hd b,own' id=some hd->b∈hd.bs->own id=some hd:=fun id hd b e hb=>by
  by_cases hi:id=h.length
  ·simp only[own',if_pos hi,Option.some.injEq]at e;subst e;cases hb
  ·simpa only[own',if_neg hi]using e
 have hc:Carries F own w F own' w:=⟨fun id hd e=>⟨hd,hsub id hd e,.refl _⟩,fun b _ hn=>⟨by
  rintro (hf| ⟨id,hd,e,hb⟩)
  ·exact hn (.inl hf)
  ·exact hn (.inr ⟨id,hd,hinv id hd b e hb,hb⟩),rfl⟩⟩
 refine⟨own',⟨hr.size,hr.defers,⟨fun id hd e=>?_,hr.hp.foreign,fun id hd b e hb=>hr.hp.apart id hd b (hinv id hd b e hb) hb,fun i j hi hj b e1 e2 b1 b2=>hr.hp.inj i j hi hj b (hinv i hi b e1 b1) (hinv j hj b e2 b2) b1 b2,fun id hd b e hb=>hr.hp.lt id hd b (hinv id hd b e hb) hb,fun id hd=>?_⟩,
  ⟨fun id hd e=>?_,fun id hd b e hb=>hr.fr.base id hd b (hinv id hd b e hb) hb,hr.fr.os,hr.fr.tape,hr.fr.output,hr.fr.size,hr.fr.block⟩,fun t=>(hr.slots t).carry hc⟩,hsub,by simp[own']⟩
 ·simp only[List.length_append,List.length_cons,List.length_nil];by_cases hi:id=h.length
  ·omega
  ·simp only[own',if_neg hi]at e;have:=hr.hp.dom id hd e;simp only at this;omega
 ·simp only at hd |-;by_cases hi:id<h.length
  ·rw[jH,if_pos hi]at hd |-;obtain⟨hd',e1,e2⟩:=hr.hp.obs id hd;exact⟨hd',hsub id hd' e1,e2.carry hc (Nat.le_refl _) fun _ _=>rfl⟩
  ·by_cases hi2:id=h.length
   ·subst hi2;rw[vA];refine⟨_,by simp[own'];rfl,?_⟩;exact .inl ⟨ad,rfl,rfl,rfl⟩
   ·rw[g_ (by simp;omega)]at hd;cases hd
 ·obtain⟨hd',e1,e2⟩:=hr.fr.ids id hd e;exact⟨hd',hsub id hd' e1,e2⟩
theorem NilS.rel {st st':St}(hn:NilS st st'){own:Own}{a:Act}{w:World}(hr:StRel F w0 N own st a w):∃ own',StRel F w0 N own' st' a w:=by
 induction hn with
 |refl=>exact⟨own,hr⟩
 | @slot t h i o _ hl ho ih=>
  obtain⟨own1,h1⟩:=ih;obtain⟨own2,h2,h3,h4⟩:=Bl h1 o ho;refine⟨own2,h2.size,h2.defers,h2.hp,h2.fr,fun u=>?_⟩;rw[jo];split
  ·rename_i e;subst e;have:=h1.slots i;rw[hl]at this;rw[bo this];exact .os (hd:= { v:=.slice none 0 0}) h4 rfl
  ·exact h2.slots u
 | @slotE t h i k _ hl ih=>
  obtain⟨own1,h1⟩:=ih;have hs:=h1.slots i;rw[hl]at hs;generalize hv:a.tmps.getD i undef=v at hs;cases hs with
  | @e0 ad=>
   obtain⟨own2,h2,h3,h4⟩:=Es h1 k ad;refine⟨own2,h2.size,h2.defers,h2.hp,h2.fr,fun u=>?_⟩;rw[jo];split
   ·rename_i e;subst e;rw[hv];exact .os (hd:= { v:=.slice ad 0 0}) h4 rfl
   ·exact h2.slots u
 | @cell t h i j l o _ hc hl ho ih=>
  obtain⟨own1,h1⟩:=ih;obtain⟨own2,h2,h3,h4⟩:=Bl h1 o ho;have hlt:i<h.length:=by
   rcases Nat.lt_or_ge i h.length with h'|h'
   ·exact h'
   ·rw[g_ h']at hc;cases hc
  have hlen:(bf h i (.cells (l.set j (.os h.length)))).length=h.length:=by rw[bv,if_pos hlt]
  refine⟨own2,h2.size,h2.defers,⟨fun id hd e=>?_,h2.hp.foreign,h2.hp.apart,h2.hp.inj,h2.hp.lt,fun id hd=>?_⟩,h2.fr,h2.slots⟩
  ·have:=h2.hp.dom id hd e;simp only[List.length_append]at this |-;rw[hlen];exact this
  ·simp only at hd |-;have hob:=h2.hp.obs id;simp only at hob;by_cases hi:id<h.length
   ·rw[jH,if_pos (by rw[hlen];exact hi)]at hd |-;rw[jH,if_pos hi]at hob;rw[b8]at hd |-;by_cases hii:i=id
    ·subst hii;rw[if_pos rfl]at hd |-;rw[hc]at hob;obtain⟨hd',e1,b,cs,ty,m1,m2,m3,m4,m5⟩:=hob rfl;refine⟨hd',e1,b,cs,ty,m1,m2,m3,by simpa using m4,fun j' s hs=>?_⟩;rw[List.getElem?_set]at hs;by_cases hj:j=j'
     ·subst hj;rw[if_pos rfl]at hs;split at hs
      ·cases hs;have:=m5 j _ hl;rw[bo this];exact .os (hd:= { v:=.slice none 0 0}) h4 rfl
      ·cases hs
     ·rw[if_neg hj]at hs;exact m5 j' s hs
    ·rw[if_neg hii]at hd |-;exact hob hd
   ·rw[jH,if_neg (by rw[hlen];exact hi),hlen]at hd |-;rw[jH,if_neg hi]at hob;exact hob hd
end
section
variable {P:Program}{F:Nat->Prop}{w0:Bs}{ro:Option Nat}{nd:Nat}{ts:Tis}{G:Cons}{L:mL}{N:Nat}
theorem pN {ts:Tis}{G:Cons}{ro:Option Nat}{N:Nat}(hm:P.follows .mixedOrders=true)(hts:ts.ok P)(hG:ConsOk P G){id:Nat}{c:Code}(hc:ca N c=true){C:St->Option LCon}
  (h:∀ st lc,C st=some lc->lc.pre->∃ (σ:Type) (D:σ->St) (I:σ->Prop) (m:σ->Nat) (x0:σ) (stN:St) (js:List Nat),I x0/\NilS st stN/\st.h.length<=(D x0).h.length/\Sub js st.h.length stN (D x0)/\
   ∀ x,I x->∃ L Qx,ap P ro N L c/\(∀ e st',Qx e st'->mu D I m st.h.length x id (fun e st'=>∃ r js,lc.post r/\lc.ex r=e/\st.h.length<=(lc.out r).h.length/\Sub js st.h.length st' (lc.out r)) e st')/\exec ts G L c (D x) Qx):gT P ro N id (.loop c) C:=by
 intro nd F w0 st lc hC hpre own a w hr;obtain⟨σ,D,I,m,x0,stN,js,h1,hN,h2,h3,h4⟩:=h st lc hC hpre;obtain⟨ownN,hrN⟩:=hN.rel hr;refine wpIn_mono (vn hm hts hG hc D I m st.h.length hr.base_lt _ h4 x0 h1 _ a w (hrN.sub h3 hr.base_lt h2)) ?_;intro e a' w' hq;have key:∀ ex F1 own' st',StRel F1 w0 N own' st' a' w'->(∃ r js,lc.post r/\lc.ex r=ex/\st.h.length<=(lc.out r).h.length/\Sub js st.h.length st' (lc.out r))->∃ own2 st2,StRel F1 w0 N own2 st2 a' w'/\∃ r,lc.post r/\ex=lc.ex r/\st2=lc.out r:=by
  rintro ex F1 own' st' hst ⟨r,js,q1,q2,q3,q4⟩;exact⟨_,_,hst.sub q4 hr.base_lt q3,r,q1,q2.symm,rfl⟩
 cases e with
 |normal=>obtain⟨F1,own',st',h0,k1,k2⟩:=hq;obtain⟨own2,st2,q1,q2⟩:=key _ F1 own' st' k1 k2;exact⟨F1,own2,st2,h0,q1,q2⟩
 |exit j=>obtain⟨F1,own',st',h0,k1,k2⟩:=hq;obtain⟨own2,st2,q1,q2⟩:=key _ F1 own' st' k1 k2;exact⟨F1,own2,st2,h0,q1,q2⟩
 |ret=>obtain⟨F1,own',st',h0,k1,k2⟩:=hq;obtain⟨own2,st2,q1,q2⟩:=key _ F1 own' st' k1 k2;exact⟨F1,own2,st2,h0,q1,q2⟩
 |panic ch=>
  obtain⟨x,F1,own',st',h0,k1,k2,k3⟩:=hq;obtain⟨own2,st2,q1,q2⟩:=key _ F1 own' st' k1 k2;exact⟨x,F1,own2,st2,h0,q1,q2,k3⟩
 |_=>exact hq.elim
end
section
variable {P:Program}{ρ σ:Type}
def fm (st2:St)(n0:Nat)(st:St):Prop:= ∃ js,n0<=st2.h.length/\Sub js n0 st st2
theorem wR {st2 st:St}{n0:Nat}(js:List Nat)(h1:n0<=st2.h.length)(h2:Sub js n0 st st2):fm st2 n0 st:=⟨js,h1,h2⟩
def lV (D:Nat->σ->St)(n0 k:Nat)(st:St):ρ⊕σ->Prop
 | .inl _=>False
 | .inr s'=>fm (D (k+1) s') n0 st
def iQ (exE:ρ->Ex)(outE:ρ->St)(n0:Nat)(e:Ex)(st:St):ρ⊕σ->Prop
 | .inl x=>exE x=e/\fm (outE x) n0 st
 | .inr _=>False
def cE (step:Nat->σ->ρ⊕σ)(n:Nat)(exE:ρ->Ex)(outE:ρ->St)(outN:σ->St)(D:Nat->σ->St)(n0 id k:Nat)(s:σ):Ex->St->Prop
 | .normal,st=>k<n/\lV D n0 k st (step k s)
 | .exit j,st=>bif Nat.beq j id then(n<=k->fm (outN s) n0 st)/\(k<n->iQ exE outE n0 .normal st (step k s))else k<n/\iQ exE outE n0 (.exit j) st (step k s)
 | .ret,st=>k<n/\iQ exE outE n0 .ret st (step k s)
 | .pan x,st=>k<n/\iQ exE outE n0 (.pan x) st (step k s)
variable {step:Nat->σ->ρ⊕σ}{n n0 id k j:Nat}{exE:ρ->Ex}{outE:ρ->St}{outN:σ->St}{D:Nat->σ->St}{s s':σ}{st:St}{x:Value}{e:Ex}{y:ρ}
@[go_sem] theorem Mz:lV (ρ:=ρ) D n0 k st (.inr s')=fm (D (k+1) s') n0 st:=(rfl)
@[go_sem] theorem Ol:iQ (σ:=σ) exE outE n0 e st (.inl y)=(exE y=e/\fm (outE y) n0 st):=(rfl)
@[go_sem] theorem MA:cE step n exE outE outN D n0 id k s .normal st=(k<n/\lV D n0 k st (step k s)):=(rfl)
@[go_sem] theorem Qc:cE step n exE outE outN D n0 id k s (.exit j) st=bif Nat.beq j id then(n<=k->fm (outN s) n0 st)/\(k<n->iQ exE outE n0 .normal st (step k s))else k<n/\iQ exE outE n0 (.exit j) st (step k s):=(rfl)
@[go_sem] theorem Q3:cE step n exE outE outN D n0 id k s .ret st=(k<n/\iQ exE outE n0 .ret st (step k s)):=(rfl)
@[go_sem] theorem Q4:cE step n exE outE outN D n0 id k s (.pan x) st=(k<n/\iQ exE outE n0 (.pan x) st (step k s)):=(rfl)
@[congr] theorem IF {r r':ρ⊕σ}(h:r=r'):lV D n0 k st r=lV D n0 k st r':=by rw[h]
end
def dK (p:Prop)(S:SV)(H:List Ob):HCon:= { α:=Unit,pre:=p,post:=fun _=>True,res:=fun _=>.ret S H}
def Ad (n0:Nat)(S:SV)(H:List Ob)(h:List Ob):Option SV->Prop
 |some s=>fm ⟨[(0,S)],H⟩ n0 ⟨[(0,s)],h⟩
 |none=>False
def Et (n0:Nat)(rs:List ResultVar)(ts:Tis)(S:SV)(H:List Ob):Ex->St->Prop
 | .exit _,_=>False
 | .normal,st=>Ad n0 S H st.h (jh (ir ts st rs))
 | .ret,st=>Ad n0 S H st.h (jh (ir ts st rs))
 | .pan _,_=>False
section
variable {P:Program}{ts:Tis}{G:Cons}{n0:Nat}{S s:SV}{H h:List Ob}{rs:List ResultVar}{st:St}{x:Value}{j:Nat}
@[go_sem] theorem MB:Ad n0 S H h (some s)=fm ⟨[(0,S)],H⟩ n0 ⟨[(0,s)],h⟩:=(rfl)
@[go_sem] theorem Hq:Et n0 rs ts S H .normal st=Ad n0 S H st.h (jh (ir ts st rs)):=(rfl)
@[go_sem] theorem MC:Et n0 rs ts S H .ret st=Ad n0 S H st.h (jh (ir ts st rs)):=(rfl)
@[go_sem high] theorem Kk {p:Prop}{ids:List Nat}{d:Option Nat}{K:St->Prop}{Z:Value->St->Prop}:ph ids d st K Z (some (dK p S H))=(p/\zg ids d st K Z (.ret S H)):=by
 show(p/\∀ r:Unit,True->zg ids d st K Z (.ret S H))=_;simp
def hCR (t:Tag)(k:List t.T->Option HCon):List Ob->Option HCon
 | [.cells [.os 1],.row k' l] =>if h:k'=t then k (h▸l)else none
 |_=>none
open Classical in
noncomputable def pQ {α:Type 1}(X:SV)(k:List SV->Option α):List SV->Option α
 |s::r=>if s=X then k r else none
 | [] =>none
@[go_sem] theorem pQ_mk {α:Type 1}{X:SV}{k:List SV->Option α}{r:List SV}:pQ X k (X::r)=k r:=by simp[pQ]
theorem Kl {α:Type 1}{X:SV}{k:List SV->Option α}{l:List SV}{c:α}(h:pQ X k l=some c):∃ r,l=X::r/\k r=some c:=by
 unfold pQ at h;split at h
 ·split at h
  ·rename_i e;subst e;exact⟨_,rfl,h⟩
  ·cases h
 ·cases h
def pXR {α:Type 1}(t:Tag)(k:List t.T->List SV->Option α):List SV->Option α
 | .ep [.rs k' l] 0::r=>vr t k r k' l
 |_=>none
@[go_sem] theorem Q5 {α:Type 1}{t:Tag}{k:List t.T->List SV->Option α}{l:List t.T}{r:List SV}:pXR t k (.ep [.rs t l] 0::r)=k l r:=by simp[pXR,vr]
theorem Hr {α:Type 1}{t:Tag}{k:List t.T->List SV->Option α}{l:List SV}{c:α}(h:pXR t k l=some c):∃ x r,l=.ep [.rs t x] 0::r/\k x r=some c:=by
 unfold pXR at h;split at h
 ·rename_i k' l' r;unfold vr at h;split at h
  ·rename_i e;subst e;exact⟨_,_,rfl,h⟩
  ·cases h
 ·cases h
theorem fo (hm:P.follows .mixedOrders=true) (hts:ts.ok P) (hG:ConsOk P G) {f:FuncId} {fn:Func} {c:Code} (hf:P.funcs[f]? =some fn) (hb:fn.body=some c) (hname:(fn.name== "runtime.NumGoroutine")=false)
  (hc:ca fn.ntmps c=true) {C:List SV->List Ob->Option HCon}
  (h:∀ l o con,C l o=some con->∃ p S H,con=dK p S H/\(p->l.length<=fn.ntmps/\∃ L,ap P none fn.ntmps L c/\exec ts G L c ⟨iJ 0 l,o⟩ (Et o.length fn.results.toList ts S H))):FnOkO P f C:=by
 refine tF hm hts hG hf hb hname hc fun l o con hC hp=>?_;obtain⟨p,S,H,rfl,h2⟩:=h l o con hC;obtain⟨h3,L,h4,h5⟩:=h2 hp;refine⟨h3,L,_,h4,fun e st hq=>?_,h5⟩;cases e with
 |normal=>
  change Ad _ _ _ _ _ at hq;show pj _ _ _ _;cases hs:jh (ir ts st fn.results.toList)with
  |none=>rw[hs]at hq;exact hq.elim
  |some s=>rw[hs]at hq;obtain⟨js,q1,q2⟩:=hq;exact⟨(),S,H,js,trivial,rfl,q1,q2⟩
 |ret=>
  change Ad _ _ _ _ _ at hq;show pj _ _ _ _;cases hs:jh (ir ts st fn.results.toList)with
  |none=>rw[hs]at hq;exact hq.elim
  |some s=>rw[hs]at hq;obtain⟨js,q1,q2⟩:=hq;exact⟨(),S,H,js,trivial,rfl,q1,q2⟩
 |exit j=>exact hq.elim
 |pan x=>exact hq.elim
end
end Go.Sx
end
section
namespace Go.Sx
attribute [go_sem] true_imp_iff false_imp_iff Bool.false_eq_true Int.toNat_natCast Int.toNat_zero true_and and_true and_self implies_true forall_const
theorem cl {p:Prop}(h:p:=by(first|done|(repeat' (first|with_reducible refine And.intro ?_ ?_|((with_reducible show _≠_);first|assumption|omega|(simp_all [d7,eJ];done) |grind) |with_reducible intro _)) <;>(first|done|with_reducible exact Empty.elim ‹Empty› |with_reducible assumption|rfl|omega|assumption|(simp only[*,cond_true,cond_false,Bool.not_true,Bool.not_false,go_sem,Nat.reduceBEq,Nat.reduceLeDiff,Nat.reduceAdd,Nat.reduceSub,Nat.reduceMul,Int.reduceLE,Int.reduceLT,Int.reduceToNat,Int.reduceNeg,reduceCtorEq];done) |(simp only[*,cond_true,cond_false,Bool.not_true,Bool.not_false,go_sem,Nat.reduceBEq,Nat.reduceLeDiff,Nat.reduceAdd,Nat.reduceSub,Nat.reduceMul,Int.reduceLE,Int.reduceLT,Int.reduceToNat,Int.reduceNeg,reduceCtorEq];(repeat' (first|with_reducible refine And.intro ?_ ?_|((with_reducible show _≠_);first|assumption|omega|(simp_all [d7,eJ];done) |grind) |with_reducible intro _)) <;>(first|done|assumption|rfl|omega|(simp_all [d7,eJ];done))) |(simp_all [okI,d7,eJ];done) |grind))):p:=h
theorem cl2 {p:Prop}(h:p:=by(first|done|(repeat' (first|with_reducible refine And.intro ?_ ?_|((with_reducible show _≠_);first|assumption|omega|(simp_all [d7,eJ];done) |grind) |with_reducible intro _)) <;>(first|done|with_reducible exact Empty.elim ‹Empty› |with_reducible assumption|rfl|omega|assumption|(simp only[*,go_sem,Nat.reduceBEq,Nat.reduceLeDiff,Nat.reduceAdd,Nat.reduceSub,Nat.reduceMul,Int.reduceLE,Int.reduceLT,Int.reduceToNat,Int.reduceNeg,reduceCtorEq];done) |(simp_all [d7,eJ];done)))):p:=h
inductive JL:List Nat->Prop
 |mk (l:List Nat):JL l
theorem jl (l:List Nat):JL l:=.mk l
theorem fk {st2 st:St}{n0:Nat}{js:List Nat}(_:JL js)(h1:n0<=st2.h.length:=by(first|(show _<=_;decide) |(simp only[*,go_sem,Nat.reduceBEq,Nat.reduceLeDiff,Nat.reduceAdd,Nat.reduceSub,Nat.reduceMul,Int.reduceLE,Int.reduceLT,Int.reduceToNat,Int.reduceNeg,reduceCtorEq];done) |(simp only[*,go_sem,Nat.reduceBEq,Nat.reduceLeDiff,Nat.reduceAdd,Nat.reduceSub,Nat.reduceMul,Int.reduceLE,Int.reduceLT,Int.reduceToNat,Int.reduceNeg,reduceCtorEq];(repeat' (first|with_reducible refine And.intro ?_ ?_|((with_reducible show _≠_);first|assumption|omega|(simp_all [d7,eJ];done) |grind) |with_reducible intro _)) <;>(first|rfl|decide|assumption|omega|(simp_all [d7,eJ];done)))))(h2:Sub js n0 st st2:=by(first|(show _<=_;decide) |(simp only[*,go_sem,Nat.reduceBEq,Nat.reduceLeDiff,Nat.reduceAdd,Nat.reduceSub,Nat.reduceMul,Int.reduceLE,Int.reduceLT,Int.reduceToNat,Int.reduceNeg,reduceCtorEq];done) |(simp only[*,go_sem,Nat.reduceBEq,Nat.reduceLeDiff,Nat.reduceAdd,Nat.reduceSub,Nat.reduceMul,Int.reduceLE,Int.reduceLT,Int.reduceToNat,Int.reduceNeg,reduceCtorEq];(repeat' (first|with_reducible refine And.intro ?_ ?_|((with_reducible show _≠_);first|assumption|omega|(simp_all [d7,eJ];done) |grind) |with_reducible intro _)) <;>(first|rfl|decide|assumption|omega|(simp_all [d7,eJ];done))))):fm st2 n0 st:=wR js h1 h2
theorem fk2 {st2 st:St}{n0:Nat}{js:List Nat}(_:JL js)(h1:n0<=st2.h.length:=by(first|(show _<=_;decide) |(simp only[go_sem,Nat.reduceBEq,Nat.reduceLeDiff,Nat.reduceAdd,Nat.reduceSub,Nat.reduceMul,Int.reduceLE,Int.reduceLT,Int.reduceToNat,Int.reduceNeg,reduceCtorEq];(repeat' (first|with_reducible refine And.intro ?_ ?_|((with_reducible show _≠_);first|assumption|omega|(simp_all [d7,eJ];done) |grind) |with_reducible intro _)) <;>(first|rfl|decide|assumption|omega|(simp_all [d7,eJ];done)))))(h2:Sub js n0 st st2:=by(first|(show _<=_;decide) |(simp only[go_sem,Nat.reduceBEq,Nat.reduceLeDiff,Nat.reduceAdd,Nat.reduceSub,Nat.reduceMul,Int.reduceLE,Int.reduceLT,Int.reduceToNat,Int.reduceNeg,reduceCtorEq];(repeat' (first|with_reducible refine And.intro ?_ ?_|((with_reducible show _≠_);first|assumption|omega|(simp_all [d7,eJ];done) |grind) |with_reducible intro _)) <;>(first|rfl|decide|assumption|omega|(simp_all [d7,eJ];done))))):fm st2 n0 st:=wR js h1 h2
theorem cg0 {α:Type _}{p:α->Prop}:∀ x∈([]:List α),p x:=fun _ h=>by cases h
theorem cgc {α:Type _}{p:α->Prop}{a:α}{l:List α}(h:p a)(t:∀ x∈l,p x):∀ x∈a::l,p x:=fun x hx=>by
 rcases List.mem_cons.1 hx with rfl|hx
 ·exact h
 ·exact t x hx
attribute [go_sem] if_true
end Go.Sx
end
section
namespace Go.Sx
open Go.RowKit
open IntKind (i64)
section
variable {P:Program}
end
def okL {ρ σ τ:Type}(step:τ->σ->ρ⊕σ)(p:τ->σ->Prop):List τ->σ->Prop
 | [],_=>True
 |x::l,s=>p x s/\∀ s',step x s=.inr s'->okL step p l s'
section
variable {ρ σ τ:Type}
def rgN (T:List (Nat×SV))(H:σ->List Ob)(n0:Nat)(st:St):ρ⊕σ->Prop
 | .inl _=>False
 | .inr s'=>fm ⟨T,H s'⟩ n0 ⟨T,st.h⟩
def rgX (exE:ρ->Ex)(T:List (Nat×SV))(Hy:ρ->List Ob)(n0:Nat)(e:Ex)(st:St):ρ⊕σ->Prop
 | .inl y=>exE y=e/\fm ⟨T,Hy y⟩ n0 ⟨T,st.h⟩
 | .inr _=>False
def rgQ (step:τ->σ->ρ⊕σ)(exE:ρ->Ex)(T:List (Nat×SV))(H:σ->List Ob)(Hy:ρ->List Ob)(n0 id:Nat)(x:τ)(s:σ):Ex->St->Prop
 | .normal,st=>rgN T H n0 st (step x s)
 | .exit j,st=>rgX exE T Hy n0 (bif Nat.beq j id then .normal else .exit j) st (step x s)
 | .ret,st=>rgX exE T Hy n0 .ret st (step x s)
 | .pan _,_=>False
variable {step:τ->σ->ρ⊕σ}{exE:ρ->Ex}{T:List (Nat×SV)}{H:σ->List Ob}{Hy:ρ->List Ob}{n0 id j:Nat}{x:τ}{s s':σ}{y:ρ}{st:St}{e:Ex}
@[go_sem] theorem Qd:rgN (ρ:=ρ) T H n0 st (.inr s')=fm ⟨T,H s'⟩ n0 ⟨T,st.h⟩:=(rfl)
@[go_sem] theorem Qe:rgX (σ:=σ) exE T Hy n0 e st (.inl y)=(exE y=e/\fm ⟨T,Hy y⟩ n0 ⟨T,st.h⟩):=(rfl)
@[go_sem] theorem Km:rgQ step exE T H Hy n0 id x s .normal st=rgN T H n0 st (step x s):=(rfl)
@[go_sem] theorem Qf:rgQ step exE T H Hy n0 id x s .ret st=rgX exE T Hy n0 .ret st (step x s):=(rfl)
@[go_sem] theorem Om:rgQ step exE T H Hy n0 id x s (.exit j) st=rgX exE T Hy n0 (bif Nat.beq j id then .normal else .exit j) st (step x s):=(rfl)
@[congr] theorem MD {r r':ρ⊕σ}(h:r=r'):rgN T H n0 st r=rgN T H n0 st r':=by rw[h]
end
section
variable {P:Program}{ts:Tis}{G:Cons}{N:Nat}
theorem Cs (hm:P.follows .mixedOrders=true)(hts:ts.ok P)(hG:ConsOk P G){id:Nat}{g:Operand}{ps:Array Tmp}{assign body:Code}{C:St->Option LCon}
  (hpn:ps.toList.Nodup) (hpN:∀ p∈ps.toList,p<N) (hca:ca N assign=true) (hcb:ca N body=true)
  (h:∀ st lc,C st=some lc->lc.pre->∃ (f:FuncId) (caps:List SV) (τ ρ σ:Type) (l:List τ) (mk:τ->List SV) (step:τ->σ->ρ⊕σ) (p:τ->σ->Prop) (pre:Prop) (s0:σ) (exE:ρ->Ex) (outE:ρ->St) (outN:σ->St) (T:List (Nat×SV)) (H:σ->List Ob) (Hy:ρ->List Ob) (js:List Nat),
   raw st.t g=.fn f [] caps/\lc=LC pre (fg step l s0) exE outE outN/\okL step p l s0/\st.h.length<=(H s0).length/\Sub js st.h.length ⟨st.t,pL (jr st caps) st.h⟩ ⟨T,H s0⟩/\
   z6 P f (fun y=>y::caps.map (ren (z8 (jr st caps)) 3)) (yp (jr st caps) st.h) (l.map mk)/\
   (∀ x s,p x s->(mk x).length=ps.size/\∃ L,(∀ l,ap P (some l) N L assign)/\(∀ l,ap P (some l) N L body)/\exec ts G L assign ⟨psT ps.toList (mk x)++T,H s⟩ (fun e st1=>e=.normal/\exec ts G L body st1 (rgQ step exE T H Hy st.h.length id x s)))/\
   (∀ s,fm (outN s) st.h.length ⟨T,H s⟩)/\∀ y,fm (outE y) st.h.length ⟨T,Hy y⟩):gT P none N id (.rangeFunc g ps assign body) C:=by
 refine yq hm hts hG hpn hpN hca hcb fun st lc hC hp=>?_;obtain⟨f,caps,τ,ρ,σ,l,mk,step,p,pre,s0,exE,outE,outN,T,H,Hy,js,h1,rfl,h2,h3,h4,h5,h6,h7,h8⟩:=h st lc hC hp;refine⟨f,caps,l.map mk,σ⊕ρ,T,fun z=>match z with| .inl s=>H s| .inr y=>Hy y,fun k z=>match z with| .inl s=>fg step (l.drop k) s=fg step l s0/\okL step p (l.drop k) s| .inr _=>False,
  fun e z=>match z with| .inl _=>False| .inr y=>fg step l s0=.inl y/\(match e with| .ret=>exE y=.ret| .exit j=>exE y=(bif Nat.beq j id then .normal else .exit j) |_=>False),.inl s0,js,h1,⟨rfl,h2⟩,h3,h4,h5,?_,?_,?_,?_⟩
 ·rintro k z args hk hI;cases z with
  |inr y=>exact hI.elim
  |inl s=>
   obtain⟨hrun,hok⟩:=hI;rw[List.getElem?_map,Option.map_eq_some_iff]at hk;obtain⟨x,hx,rfl⟩:=hk;have hlt:=(List.getElem?_eq_some_iff.1 hx).1;have hd:l.drop k=x::l.drop (k+1):=by
    rw[List.drop_eq_getElem_cons hlt];congr 1;exact(List.getElem?_eq_some_iff.1 hx).2
   rw[hd]at hrun hok;obtain⟨hl,L,hla,hlb,hex⟩:=h6 x s hok.1;refine⟨hl,L,_,hla,hlb,?_,hex⟩;intro e st' hq;have fin:∀ e',rgX exE T Hy st.h.length e' st' (step x s)->∃ y js,exE y=e'/\fg step l s0=.inl y/\st.h.length<=(Hy y).length/\Sub js st.h.length ⟨T,st'.h⟩ ⟨T,Hy y⟩:=by
    intro e' q;cases hs:step x s with
    |inr s'=>rw[hs]at q;exact q.elim
    |inl y=>
     rw[hs]at q;obtain⟨q1,js,q2,q3⟩:=q;simp only[fg,hs]at hrun;exact⟨y,js,q1,hrun.symm,q2,q3⟩
   cases e with
   |normal=>
    change rgN T H st.h.length st' (step x s)at hq;cases hs:step x s with
    |inl y=>rw[hs]at hq;exact hq.elim
    |inr s'=>
     rw[hs]at hq;obtain⟨js,q1,q2⟩:=hq;simp only[fg,hs]at hrun;exact⟨.inl s',js,⟨hrun,hok.2 s' hs⟩,q1,q2⟩
   |exit j=>
    obtain⟨y,js,q1,q2,q3,q4⟩:=fin _ hq;exact⟨.inr y,js,⟨q2,q1⟩,q3,q4⟩
   |ret=>
    obtain⟨y,js,q1,q2,q3,q4⟩:=fin _ hq;exact⟨.inr y,js,⟨q2,q1⟩,q3,q4⟩
   |pan x=>exact hq.elim
 ·intro z hI;cases z with
  |inr y=>exact hI.elim
  |inl s=>
   obtain⟨js,q1,q2⟩:=h7 s;have:=hI.1;rw[List.length_map,List.drop_length]at this;exact⟨.inr s,js,this,rfl,q1,q2⟩
 ·intro z hS;cases z with
  |inl s=>exact hS.elim
  |inr y=>
   obtain⟨js,q1,q2⟩:=h8 y;exact⟨.inl y,js,hS.1.symm,hS.2,q1,q2⟩
 ·intro j z hS;cases z with
  |inl s=>exact hS.elim
  |inr y=>
   obtain⟨js,q1,q2⟩:=h8 y;refine⟨.inl y,js,hS.1.symm,?_,q1,q2⟩;have:=hS.2;show exE y=_;rw[this];by_cases hj:j=id
   ·rw[if_pos hj];have hb:Nat.beq j id=true:=by rw[hj];exact Nat.beq_refl id
    rw[hb];rfl
   ·rw[if_neg hj];cases hb:Nat.beq j id with
    |true=>exact absurd (Nat.eq_of_beq_eq_true hb) hj
    |false=>rfl
end
section
variable {P:Program}{ρ σ τ:Type}
def oX:Ob->Option Nat
 | .mi _ _ _ c=>c
 |_=>none
def nxC (step:τ->σ->ρ⊕σ)(l:List τ)(d:τ)(D:List Nat->Option Nat->σ->St)(n0:Nat)(left:List Nat)(s:σ)(st:St):Option Nat->Prop
 |some j=>j∈left/\lV (fun _ s'=>D (left.erase j) (some j) s') n0 0 st (step (l.getD j d) s)
 |none=>False
def exC (step:τ->σ->ρ⊕σ)(l:List τ)(d:τ)(exE:ρ->Ex)(outE:ρ->St)(n0:Nat)(left:List Nat)(s:σ)(e:Ex)(st:St):Option Nat->Prop
 |some j=>j∈left/\iQ exE outE n0 e st (step (l.getD j d) s)
 |none=>False
def cM (step:τ->σ->ρ⊕σ)(l:List τ)(d:τ)(exE:ρ->Ex)(outE:ρ->St)(outN:σ->St)(D:List Nat->Option Nat->σ->St)(n0 id it:Nat)(left:List Nat)(s:σ):Ex->St->Prop
 | .normal,st=>nxC step l d D n0 left s st (oX (ae st.h it))
 | .exit j,st=>bif Nat.beq j id then(left=[]->fm (outN s) n0 st)/\(left≠[]->exC step l d exE outE n0 left s .normal st (oX (ae st.h it)))else exC step l d exE outE n0 left s (.exit j) st (oX (ae st.h it))
 | .ret,st=>exC step l d exE outE n0 left s .ret st (oX (ae st.h it))
 | .pan x,st=>exC step l d exE outE n0 left s (.pan x) st (oX (ae st.h it))
variable {step:τ->σ->ρ⊕σ}{l:List τ}{d:τ}{n0 id it j:Nat}{exE:ρ->Ex}{outE:ρ->St}{outN:σ->St}{D:List Nat->Option Nat->σ->St}{left:List Nat}{s s':σ}{st:St}{x:Value}{e:Ex}{y:ρ}{t:List (Nat×SV)}{h:List Ob}
@[go_sem] theorem Qg {m:Option Nat}{n:Nat}{left:List Nat}{c:Option Nat}:oX (.mi m n left c)=c:=(rfl)
@[go_sem] theorem On:nxC step l d D n0 left s st (some j)=(j∈left/\lV (fun _ s'=>D (left.erase j) (some j) s') n0 0 st (step (l.getD j d) s)):=(rfl)
@[go_sem] theorem Oo:exC step l d exE outE n0 left s e st (some j)=(j∈left/\iQ exE outE n0 e st (step (l.getD j d) s)):=(rfl)
@[go_sem] theorem ME:cM step l d exE outE outN D n0 id it left s .normal ⟨t,h⟩=nxC step l d D n0 left s ⟨t,h⟩ (oX (ae h it)):=(rfl)
@[go_sem] theorem Qh:cM step l d exE outE outN D n0 id it left s (.exit j) ⟨t,h⟩=bif Nat.beq j id then(left=[]->fm (outN s) n0 ⟨t,h⟩)/\(left≠[]->exC step l d exE outE n0 left s .normal ⟨t,h⟩ (oX (ae h it)))else exC step l d exE outE n0 left s (.exit j) ⟨t,h⟩ (oX (ae h it)):=(rfl)
@[go_sem] theorem Q6:cM step l d exE outE outN D n0 id it left s .ret ⟨t,h⟩=exC step l d exE outE n0 left s .ret ⟨t,h⟩ (oX (ae h it)):=(rfl)
@[go_sem] theorem Q7:cM step l d exE outE outN D n0 id it left s (.pan x) ⟨t,h⟩=exC step l d exE outE n0 left s (.pan x) ⟨t,h⟩ (oX (ae h it)):=(rfl)
@[congr] theorem Oq {st st':St}{e e':Ex}(h:st=st')(he:e=e'):cM step l d exE outE outN D n0 id it left s e st=cM step l d exE outE outN D n0 id it left s e' st':=by rw[h,he]
attribute [go_sem] Dj
@[go_sem] theorem Ot {t:List (Nat×SV)}{h:List Ob}{d:Nat}{s:SV}:St.put ⟨t,h⟩ (some d) s=⟨(d,s)::t,h⟩:=(rfl)
@[go_sem] theorem Ou {t:List (Nat×SV)}{h:List Ob}{s:SV}:St.put ⟨t,h⟩ none s=⟨t,h⟩:=(rfl)
theorem tL (l:List τ)(d:τ):(List.range l.length).map (fun j=>l.getD j d)=l:=by
 apply List.ext_getElem
 ·simp
 ·intro i h1 h2;simp only[List.length_map,List.length_range]at h1;simp[List.getD_eq_getElem?_getD,List.getElem?_eq_getElem h1]
end
inductive NLoc where
 |slot (i:Nat) (o:Ob)
 |cell (i j:Nat) (o:Ob)
def Eu (j n:Nat):Ob->Ob
 | .cells l=>.cells (l.set j (.os n))
 |o=>o
def Hs (j:Nat):Ob->Prop
 | .cells l=>nth l j=some (.v (.slice none 0 0))
 |_=>False
def tM:Ob->Prop
 | .row _ l=>l=[]
 | .grid _ l=>l=[]
 |_=>False
def Ct:SV->Ob->Prop
 | .v (.slice none 0 0),_=>True
 | .e0,.row _ _=>True
 |_,_=>False
def mkN:List NLoc->St->St
 | [],st=>st
 | .slot i o::r,⟨t,h⟩ =>mkN r ⟨(i,.os h.length)::t,h++[o]⟩
 | .cell i j o::r,⟨t,h⟩ =>mkN r ⟨t,bf h i (Eu j h.length (ae h i))++[o]⟩
def okN:List NLoc->St->Prop
 | [],_=>True
 | .slot i o::r,⟨t,h⟩ =>Ct (lk i t) o/\tM o/\okN r ⟨(i,.os h.length)::t,h++[o]⟩
 | .cell i j o::r,⟨t,h⟩ =>Hs j (ae h i)/\tM o/\okN r ⟨t,bf h i (Eu j h.length (ae h i))++[o]⟩
section
variable {i j m n:Nat}{o:Ob}{r:List NLoc}{t t2:List (Nat×SV)}{h h2:List Ob}{l:List SV}{ns:List NLoc}{js:List Nat}{st:St}
@[go_sem] theorem Qi:mkN [] st=st:=(rfl)
@[go_sem] theorem Ov:mkN (.slot i o::r) ⟨t,h⟩=mkN r ⟨(i,.os h.length)::t,h++[o]⟩:=(rfl)
@[go_sem] theorem Ow:mkN (.cell i j o::r) ⟨t,h⟩=mkN r ⟨t,bf h i (Eu j h.length (ae h i))++[o]⟩:=(rfl)
@[go_sem] theorem Qj:okN [] st=True:=(rfl)
@[go_sem] theorem Ox:okN (.slot i o::r) ⟨t,h⟩=(Ct (lk i t) o/\tM o/\okN r ⟨(i,.os h.length)::t,h++[o]⟩):=(rfl)
@[go_sem] theorem Oy:okN (.cell i j o::r) ⟨t,h⟩=(Hs j (ae h i)/\tM o/\okN r ⟨t,bf h i (Eu j h.length (ae h i))++[o]⟩):=(rfl)
@[go_sem] theorem Oz:Ct (.v (.slice none 0 0)) o=True:=by cases o <;>rfl
@[go_sem] theorem Qk {k:Tag}{m:List k.T}:Ct .e0 (.row k m)=True:=(rfl)
@[go_sem] theorem Kn:Eu j n (.cells l)=.cells (l.set j (.os n)):=(rfl)
@[go_sem] theorem Ko:Hs j (.cells l)=(nth l j=some (.v (.slice none 0 0))):=(rfl)
theorem Bm (h:tM o):(∃ k,o=.row k [])\/∃ k,o=.grid k []:=by
 cases o <;>simp only[tM]at h
 ·subst h;exact .inl ⟨_,rfl⟩
 ·subst h;exact .inr ⟨_,rfl⟩
theorem Ev {s:SV}{o:Ob}(h:Ct s o):s=.v (.slice none 0 0)\/(s=.e0/\∃ k l,o=.row k l):=by
 unfold Ct at h;split at h
 ·exact .inl rfl
 ·exact .inr ⟨rfl,_,_,rfl⟩
 ·exact h.elim
theorem oY:∀ (ns:List NLoc) (st0 st:St),NilS st0 st->okN ns st->NilS st0 (mkN ns st)
 | [],_,_,hn,_=>hn
 | .slot i o::r,st0,⟨t,h⟩,hn,hk=>by
  rcases Ev hk.1 with e| ⟨e,k,l,ho⟩
  ·exact oY r st0 _ (.slot o hn e (Bm hk.2.1)) hk.2.2
  ·have h2:=hk.2.1;have h3:=hk.2.2;rw[ho]at h2 h3;simp only[tM]at h2;subst h2;subst ho;exact oY r st0 _ (.slotE k hn e) h3
 | .cell i j o::r,st0,⟨t,h⟩,hn,hk=>by
  refine oY r st0 _ ?_ hk.2.2;have h1:=hk.1;cases ho:ae h i with
  |cells l=>
   rw[ho]at h1;simp only[Hs,dx]at h1;exact .cell o hn ho h1 (Bm hk.2.1)
  |_=>rw[ho]at h1;exact h1.elim
def mC (m:Nat)(ns:List NLoc)(js:List Nat)(st d:St):Prop:=st.h.length=m/\okN ns st/\m<=d.h.length/\Sub js m (mkN ns st) d
@[go_sem] theorem MF:mC m ns js ⟨t,h⟩ ⟨t2,h2⟩=(h.length=m/\okN ns ⟨t,h⟩/\m<=h2.length/\Sub js m (mkN ns ⟨t,h⟩) ⟨t2,h2⟩):=(rfl)
end
theorem ak {P:Program}{ro:Option Nat}{N:Nat}(c:Code):ap P ro N L0 c:=by
 induction c with
 |seq a b ha hb=>exact⟨ha,hb⟩
 |cond _ a b ha hb=>exact⟨ha,hb⟩
 |block id c hc=>
  cases c with
  |loop c=>exact fun _ _ _ _ _ h=>by cases h
  |rangeFunc f ps a b=>exact fun _ _ _ _ _ h=>by cases h
  |_=>exact hc
 |_=>trivial
section
variable {ρ σ τ:Type}
def pT:Nat->σ->Prop:=fun _ _=>True
@[go_sem] theorem Q8 {step:Nat->σ->ρ⊕σ}{n i:Nat}{s:σ}:okI step pT n i s=True:=eq_true (mB _ _ _ fun _ _ _ _=>trivial)
def LCR (m:Nat)(ns:List NLoc)(js:List Nat)(D:Nat->σ->St)(step:Nat->σ->ρ⊕σ)(p:Nat->σ->Prop)(n:Nat)(s0:σ)(B:Prop)(exE:ρ->Ex)(outE:ρ->St)(st:St):LCon:=
 LC (mC m ns js st (D 0 s0)/\B/\okI step p n 0 s0) (aq step n 0 s0) exE outE (D n)
def LCV (m:Nat)(ns:List NLoc)(js:List Nat)(D:Nat->σ->St)(step:Nat->σ->ρ⊕σ)(p:Nat->σ->Prop)(n:Nat)(s0:σ)(exE:ρ->Ex)(outE:ρ->St)(st:St):LCon:=
 LC (mC m ns js st (D 0 s0)/\okI step p n 0 s0/\∀ s,aq step n 0 s0≠ .inr s) (aq step n 0 s0) exE outE (D n)
variable {m:Nat}{ns:List NLoc}{js:List Nat}{step:Nat->σ->ρ⊕σ}{p:Nat->σ->Prop}{n:Nat}{s0:σ}{B:Prop}{exE:ρ->Ex}{outE:ρ->St}{outN:σ->St}{st:St}{Q:Ex->St->Prop}
@[go_sem] theorem MG {D:Nat->σ->St}:kO Q (some (LCR m ns js D step p n s0 B exE outE st))=((mC m ns js st (D 0 s0)/\B/\okI step p n 0 s0)/\(∀ x,aq step n 0 s0=.inl x->Q (exE x) (outE x))/\∀ s,aq step n 0 s0=.inr s->Q .normal (D n s)):=ym
@[go_sem] theorem MH {D:Nat->σ->St}:kO Q (some (LCV m ns js D step p n s0 exE outE st))=((mC m ns js st (D 0 s0)/\okI step p n 0 s0/\∀ s,aq step n 0 s0≠ .inr s)/\∀ x,aq step n 0 s0=.inl x->Q (exE x) (outE x)):=by
 refine ym.trans ?_;apply propext;constructor
 ·rintro⟨h1,h2,_⟩;exact⟨h1,h2⟩
 ·rintro⟨h1,h2⟩;exact⟨h1,h2,fun s hs=>absurd hs (h1.2.2 s)⟩
def cR (step:Nat->σ->ρ⊕σ)(exE:ρ->Ex)(outE:ρ->St)(D:Nat->σ->St)(m id k:Nat)(s:σ):Ex->St->Prop
 | .normal,st=>lV D m k st (step k s)
 | .exit j,st=>iQ exE outE m (bif Nat.beq j id then .normal else .exit j) st (step k s)
 | .ret,st=>iQ exE outE m .ret st (step k s)
 | .pan x,st=>iQ exE outE m (.pan x) st (step k s)
def cZ (d:St)(m id:Nat):Ex->St->Prop
 | .exit j,st=>bif Nat.beq j id then fm d m st else False
 |_,_=>False
variable {D:Nat->σ->St}{id k j:Nat}{s:σ}{x:Value}{d:St}{e e':Ex}
@[go_sem] theorem MI:cR step exE outE D m id k s .normal st=lV D m k st (step k s):=(rfl)
@[go_sem] theorem Ql:cR step exE outE D m id k s (.exit j) st=iQ exE outE m (bif Nat.beq j id then .normal else .exit j) st (step k s):=(rfl)
@[go_sem] theorem Q9:cR step exE outE D m id k s .ret st=iQ exE outE m .ret st (step k s):=(rfl)
@[go_sem] theorem Q_:cR step exE outE D m id k s (.pan x) st=iQ exE outE m (.pan x) st (step k s):=(rfl)
@[go_sem] theorem Qm:cZ d m id (.exit j) st=bif Nat.beq j id then fm d m st else False:=(rfl)
@[congr] theorem OA {st':St}(h:st=st')(he:e=e'):cR step exE outE D m id k s e st=cR step exE outE D m id k s e' st':=by rw[h,he]
@[congr] theorem OB {st':St}(h:st=st')(he:e=e'):cZ d m id e st=cZ d m id e' st':=by rw[h,he]
@[congr] theorem IG {r r':ρ⊕σ}(h:r=r')(he:e=e'):iQ exE outE m e st r=iQ exE outE m e' st r':=by rw[h,he]
end
section
variable {P:Program}{ρ σ τ:Type}{ts:Tis}{G:Cons}{ro:Option Nat}{N:Nat}{id:Nat}{c:Code}{C:St->Option LCon}{m:Nat}{ns:List NLoc}{js:List Nat}{step:Nat->σ->ρ⊕σ}{p:Nat->σ->Prop}{n:Nat}{s0:σ}{exE:ρ->Ex}{outE:ρ->St}{D:Nat->σ->St}
theorem Ew {n0:Nat}(hn0:n0=m){s:σ}{k:Nat}(hlt:k<n){I:Nat×σ->Prop}{μ:Nat×σ->Nat}{outN:σ->St}{pre:Prop}{run:ρ⊕σ}
  (hI:∀ s',step k s=.inr s'->I (k+1,s')/\μ (k+1,s') <μ (k,s)) (hx:∀ x,step k s=.inl x->run=.inl x):
  ∀ e st',cR step exE outE D m id k s e st'->mu (fun x:Nat×σ=>D x.1 x.2) I μ n0 (k,s) id (fun e st'=>∃ r js,(LC pre run exE outE outN).post r/\(LC pre run exE outE outN).ex r=e/\n0<=((LC pre run exE outE outN).out r).h.length/\Sub js n0 st' ((LC pre run exE outE outN).out r)) e st':=by
 subst hn0;have hfin:∀ e st',iQ exE outE n0 e st' (step k s)->∃ r js,(LC pre run exE outE outN).post r/\(LC pre run exE outE outN).ex r=e/\n0<=((LC pre run exE outE outN).out r).h.length/\Sub js n0 st' ((LC pre run exE outE outN).out r):=by
  intro e st' q;cases hs:step k s with
  |inr s'=>rw[hs]at q;exact q.elim
  |inl x=>
   rw[hs]at q;obtain⟨q2,js,q3,q4⟩:=q;exact⟨.inl x,js,(hx x hs).symm,q2,q3,q4⟩
 intro e st' hq;cases e with
 |normal=>
  change lV D n0 k st' (step k s)at hq;cases hs:step k s with
  |inl x=>rw[hs]at hq;exact hq.elim
  |inr s'=>
   rw[hs]at hq;obtain⟨js,q3,q4⟩:=hq;obtain⟨i1,i2⟩:=hI s' hs;exact⟨(k+1,s'),js,i1,i2,q3,q4⟩
 |exit j=>
  change iQ exE outE n0 (bif Nat.beq j id then .normal else .exit j) st' (step k s)at hq;show bif Nat.beq j id then _ else _;cases hb:Nat.beq j id with
  |true=>rw[hb]at hq;exact hfin _ _ hq
  |false=>rw[hb]at hq;exact hfin _ _ hq
 |ret=>exact hfin _ _ hq
 |pan x=>exact hfin _ _ hq
theorem qN {B:Prop}(hm:P.follows .mixedOrders=true)(hts:ts.ok P)(hG:ConsOk P G)(hc:ca N c=true)(hC:∀ st,C st=some (LCR m ns js D step p n s0 B exE outE st))
  (h:B->∀ k s,k<n->p k s->∃ L Q,ap P ro N L c/\(∀ e st',Q e st'->cR step exE outE D m id k s e st')/\exec ts G L c (D k s) Q)
  (h2:B->∀ s,∃ Q,(∀ e st',Q e st'->cZ (D n s) m id e st')/\exec ts G L0 c (D n s) Q):gT P ro N id (.loop c) C:=by
 refine pN hm hts hG hc fun st lc hC' hp=>?_;rw[hC st]at hC';cases hC';obtain⟨⟨hlen,hok,hle,hsub⟩,hB,h1⟩:=hp;refine⟨Nat×σ,fun x=>D x.1 x.2,fun x=>x.1<=n/\okI step p (n - x.1) x.1 x.2/\aq step (n - x.1) x.1 x.2=aq step n 0 s0,fun x=>n - x.1,(0,s0),mkN ns st,js,⟨Nat.zero_le _,by simpa using h1,by simp⟩,oY ns st st (.refl _) hok,by rw[hlen];exact hle,by rw[hlen];exact hsub,?_⟩;rintro⟨k,s⟩ ⟨hk,hJ,hrun⟩;simp only at hk hJ hrun;rcases Nat.lt_or_ge k n with hlt|hge
 ·rw[show n - k=(n - k - 1)+1 by omega]at hrun hJ;obtain⟨L,Q,hl,hQ,hex⟩:=h hB k s hlt hJ.1;have hI:∀ s',step k s=.inr s'->okI step p (n - (k+1)) (k+1) s'/\aq step (n - (k+1)) (k+1) s'=aq step n 0 s0:=fun s' hs=>by
   have:=hJ.2 s' hs;rw[show n - k - 1=n - (k+1) by omega]at this hrun;simp only[aq,hs]at hrun;exact⟨this,hrun⟩
  have hx:∀ x,step k s=.inl x->aq step n 0 s0=.inl x:=fun x hs=>by
   simp only[aq,hs]at hrun;exact hrun.symm
  exact⟨L,Q,hl,fun e st' q=>Ew hlen hlt (fun s' hs=>⟨⟨hlt,hI s' hs⟩,by simp only;omega⟩) hx e st' (hQ e st' q),hex⟩
 ·have hkn:k=n:=by omega
  subst hkn;obtain⟨Q,hQ,hex⟩:=h2 hB s;refine⟨L0,Q,ak c,fun e st' q=>?_,hex⟩;have hq:=hQ e st' q;simp only[Nat.sub_self,aq]at hrun;cases e with
  |exit j=>
   change bif Nat.beq j id then fm (D k s) m st' else False at hq;show bif Nat.beq j id then _ else _;cases hb:Nat.beq j id with
   |true=>
    rw[hb]at hq;obtain⟨js,q3,q4⟩:=hq;exact⟨.inr s,js,hrun,rfl,by rw[hlen];exact q3,by rw[hlen];exact q4⟩
   |false=>rw[hb]at hq;exact hq.elim
  |_=>exact hq.elim
theorem ew {B:Prop}(hm:P.follows .mixedOrders=true)(hts:ts.ok P)(hG:ConsOk P G)(hc:ca N c=true)(hC:∀ st,C st=some (LCR m ns js D step p n s0 B exE outE st))(M:Int)(hn:n=M.toNat)(hB:B->M<9223372036854775808)
  (h:B->∀ k s,k<n->p k s->i64.wrap ((k:Int)+1)=((k+1:Nat):Int)->decide ((k:Int) <M)=true->∃ L,ap P ro N L c/\exec ts G L c (D k s) (cR step exE outE D m id k s))
  (h2:B->∀ s,decide ((n:Int) <M)=false->exec ts G L0 c (D n s) (cZ (D n s) m id)):gT P ro N id (.loop c) C:=by
 refine qN hm hts hG hc hC (fun b k s hlt hp=>?_) fun b s=>⟨_,fun _ _ q=>q,h2 b s ?_⟩
 ·obtain⟨L,h1,h3⟩:=h b k s hlt hp (D_ (hn▸hlt) (hB b)) (decide_eq_true (by omega));exact⟨L,_,h1,fun _ _ q=>q,h3⟩
 ·rw[decide_eq_false_iff_not];omega
theorem tN (E:Prop)(hm:P.follows .mixedOrders=true)(hts:ts.ok P)(hG:ConsOk P G)(hc:ca N c=true)(hC:∀ st,C st=some (LCR m ns js D step p n s0 True exE outE st))(M:Int)(hn:n=M.toNat)(hE:E->M<9223372036854775808)
  (h:E->∀ k s,k<n->p k s->i64.wrap ((k:Int)+1)=((k+1:Nat):Int)->decide ((k:Int) <M)=true->∃ L,ap P ro N L c/\exec ts G L c (D k s) (cR step exE outE D m id k s))
  (h2:E->∀ s,decide ((n:Int) <M)=false->exec ts G L0 c (D n s) (cZ (D n s) m id)) (h3:¬E->∀ k s,exec ts G L0 c (D k s) fun _ _=>False):gT P ro N id (.loop c) C:=by
 by_cases hb:E
 ·refine qN hm hts hG hc hC (fun b k s hlt hp=>?_) fun b s=>⟨_,fun _ _ q=>q,h2 hb s ?_⟩
  ·obtain⟨L,h1,h4⟩:=h hb k s hlt hp (D_ (hn▸hlt) (hE hb)) (decide_eq_true (by omega));exact⟨L,_,h1,fun _ _ q=>q,h4⟩
  ·rw[decide_eq_false_iff_not];omega
 ·exact qN hm hts hG hc hC (fun _ k s _ _=>⟨L0,_,ak c,fun _ _ q=>q.elim,h3 hb k s⟩) fun _ s=>⟨_,fun _ _ q=>q.elim,h3 hb n s⟩
theorem eS (hm:P.follows .mixedOrders=true)(hts:ts.ok P)(hG:ConsOk P G)(hc:ca N c=true)(hC:∀ st,C st=some (LCV m ns js D step p n s0 exE outE st))
  (h:∀ k s,p k s->∃ L,ap P ro N L c/\exec ts G L c (D k s) (cR step exE outE D m id k s)):gT P ro N id (.loop c) C:=by
 refine pN hm hts hG hc fun st lc hC' hp=>?_;rw[hC st]at hC';cases hC';obtain⟨⟨hlen,hok,hle,hsub⟩,h1,hno⟩:=hp;refine⟨Nat×σ,fun x=>D x.1 x.2,fun x=>x.1<=n/\okI step p (n - x.1) x.1 x.2/\aq step (n - x.1) x.1 x.2=aq step n 0 s0,fun x=>n - x.1,(0,s0),mkN ns st,js,⟨Nat.zero_le _,by simpa using h1,by simp⟩,oY ns st st (.refl _) hok,by rw[hlen];exact hle,by rw[hlen];exact hsub,?_⟩;rintro⟨k,s⟩ ⟨hk,hJ,hrun⟩;simp only at hk hJ hrun;have hlt:k<n:=by
  rcases Nat.lt_or_ge k n with h|h
  ·exact h
  ·have hkn:k=n:=by omega
   subst hkn;simp only[Nat.sub_self,aq]at hrun;exact absurd hrun.symm (hno s)
 rw[show n - k=(n - k - 1)+1 by omega]at hrun hJ;obtain⟨L,hl,hex⟩:=h k s hJ.1;have hI:∀ s',step k s=.inr s'->okI step p (n - (k+1)) (k+1) s'/\aq step (n - (k+1)) (k+1) s'=aq step n 0 s0:=fun s' hs=>by
  have:=hJ.2 s' hs;rw[show n - k - 1=n - (k+1) by omega]at this hrun;simp only[aq,hs]at hrun;exact⟨this,hrun⟩
 have hx:∀ x,step k s=.inl x->aq step n 0 s0=.inl x:=fun x hs=>by
  simp only[aq,hs]at hrun;exact hrun.symm
 exact⟨L,_,hl,fun e st' q=>Ew hlen hlt (fun s' hs=>⟨⟨hlt,hI s' hs⟩,by simp only;omega⟩) hx e st' q,hex⟩
theorem mT {α:Type}{l:List α}(h:l.length<=bR):(l.length:Int) <9223372036854775808:=by unfold bR at h;omega
end
section
universe u
variable {α:Type u}{G:List SV->α->Prop}{r:List SV}
theorem d_ {k:Int->List SV->Option α}(h:∀ n l c,k n l=some c->G (.v (.int .i64 n)::l) c):∀ l c,pI k l=some c->G l c:=fun l c hc=>by
 obtain⟨n,r,rfl,h1⟩:=J4 hc;exact h n r c h1
theorem Kp {k:Bool->List SV->Option α}(h:∀ n l c,k n l=some c->G (.v (.bool n)::l) c):∀ l c,pB k l=some c->G l c:=fun l c hc=>by
 obtain⟨n,r,rfl,h1⟩:=J5 hc;exact h n r c h1
theorem gn {t:Tag}{k:List t.T->List SV->Option α}(h:∀ n l c,k n l=some c->G (.rs t n::l) c):∀ l c,pR t k l=some c->G l c:=fun l c hc=>by
 obtain⟨n,r,rfl,h1⟩:=J6 hc;exact h n r c h1
theorem cq {t:Tag}{k:t.T->List SV->Option α}(h:∀ n l c,k n l=some c->G (.agg (cellsOf t n)::l) c):∀ l c,pD t k l=some c->G l c:=fun l c hc=>by
 obtain⟨n,r,rfl,h1⟩:=J8 hc;exact h n r c h1
theorem wS {t:Tag}{k:t.T->List SV->Option α}(h:∀ n l c,k n l=some c->G (.ep (cellsOf t n) 0::l) c):∀ l c,pX t k l=some c->G l c:=fun l c hc=>by
 obtain⟨n,r,rfl,h1⟩:=J7 hc;exact h n r c h1
theorem Kq {t t2:Tag}{k:List (t.T×t2.T)->List SV->Option α}(h:∀ n l c,k n l=some c->G (.rm t t2 n::l) c):∀ l c,pM t t2 k l=some c->G l c:=fun l c hc=>by
 obtain⟨n,r,rfl,h1⟩:=D5 hc;exact h n r c h1
theorem bw {c0:α}(h:G [] c0):∀ l c,pE c0 l=some c->G l c:=fun l c hc=>by
 obtain⟨rfl,rfl⟩:=zZ hc;exact h
end
section
universe u
variable {α:Type u}{G:List SV->α->Prop}
def apO:Option (List SV->Option α)->List SV->Option α
 |some q,r=>q r
 |none,_=>none
@[go_sem] theorem OC {q:List SV->Option α}{r:List SV}:apO (some q) r=q r:=(rfl)
@[go_sem] theorem OD {r:List SV}:apO (α:=α) none r=none:=(rfl)
def pFn (f:Nat)(k:List SV->Option (List SV->Option α)):List SV->Option α
 | .fn g [] caps::r=>bif Nat.beq g f then apO (k caps) r else none
 |_=>none
def pXF (f:Nat)(k:List SV->Option (List SV->Option α)):List SV->Option α
 | .ep [.fn g [] caps] 0::r=>bif Nat.beq g f then apO (k caps) r else none
 |_=>none
@[go_sem] theorem Ra {f g:Nat}{k:List SV->Option (List SV->Option α)}{caps r:List SV}:pFn f k (.fn g [] caps::r)=bif Nat.beq g f then apO (k caps) r else none:=(rfl)
@[go_sem] theorem Rb {f g:Nat}{k:List SV->Option (List SV->Option α)}{caps r:List SV}:pXF f k (.ep [.fn g [] caps] 0::r)=bif Nat.beq g f then apO (k caps) r else none:=(rfl)
theorem Ht {o:Option (List SV->Option α)}{r:List SV}{c:α}(h:apO o r=some c):∃ q,o=some q/\q r=some c:=by
 cases o with
 |none=>cases h
 |some q=>exact⟨q,rfl,h⟩
theorem pO {f:Nat}{k:List SV->Option (List SV->Option α)}(h:∀ caps q,k caps=some q->∀ l c,q l=some c->G (.fn f [] caps::l) c):∀ l c,pFn f k l=some c->G l c:=fun l c hc=>by
 unfold pFn at hc;split at hc
 ·rename_i g caps r;cases hb:Nat.beq g f with
  |false=>rw[hb]at hc;cases hc
  |true=>
   rw[hb]at hc;obtain⟨q,h1,h2⟩:=Ht hc;have:=Nat.eq_of_beq_eq_true hb;subst this;exact h caps q h1 r c h2
 ·cases hc
def pFB (f:Nat)(k:List SV->Option (List SV->Option α)):List SV->Option α
 | .fn g caps []::r=>bif Nat.beq g f then apO (k caps) r else none
 |_=>none
def OE (f:Nat)(k:List SV->Option (List SV->Option α)):List SV->Option α
 | .ep [.fn g caps []] 0::r=>bif Nat.beq g f then apO (k caps) r else none
 |_=>none
@[go_sem] theorem Rc {f g:Nat}{k:List SV->Option (List SV->Option α)}{caps r:List SV}:pFB f k (.fn g caps []::r)=bif Nat.beq g f then apO (k caps) r else none:=(rfl)
@[go_sem] theorem Qn {f g:Nat}{k:List SV->Option (List SV->Option α)}{caps r:List SV}:OE f k (.ep [.fn g caps []] 0::r)=bif Nat.beq g f then apO (k caps) r else none:=(rfl)
@[go_sem] theorem Rd {f g:Nat}{k:List SV->Option (List SV->Option α)}{b c r:List SV}{x:SV}:pFB f k (.fn g b (x::c)::r)=none:=(rfl)
@[go_sem] theorem Qo {f g:Nat}{k:List SV->Option (List SV->Option α)}{b c r:List SV}{x:SV}:OE f k (.ep [.fn g b (x::c)] 0::r)=none:=(rfl)
@[go_sem] theorem Re {f g:Nat}{k:List SV->Option (List SV->Option α)}{b c r:List SV}{x:SV}:pFn f k (.fn g (x::b) c::r)=none:=(rfl)
@[go_sem] theorem Rf {f g:Nat}{k:List SV->Option (List SV->Option α)}{b c r:List SV}{x:SV}:pXF f k (.ep [.fn g (x::b) c] 0::r)=none:=(rfl)
end
def pXX {α:Type 1}(t:Tag)(k:t.T->List SV->Option α):List SV->Option α
 | .ep [s] 0::r=>pX t k (s::r)
 |_=>none
@[go_sem] theorem OF {α:Type 1}{t:Tag}{k:t.T->List SV->Option α}{s:SV}{r:List SV}:pXX t k (.ep [s] 0::r)=pX t k (s::r):=(rfl)
theorem Hu {α:Type 1}{G:List SV->α->Prop}{t:Tag}{k:List t.T->List SV->Option α}(h:∀ n l c,k n l=some c->G (.ep [.rs t n] 0::l) c):∀ l c,pXR t k l=some c->G l c:=fun l c hc=>by
 obtain⟨n,r,rfl,h1⟩:=Hr hc;exact h n r c h1
theorem cl3 {p:Prop}(h:p:=by((repeat' (first|with_reducible refine And.intro ?_ ?_|((with_reducible show _≠_);first|assumption|omega|(simp_all [d7,eJ];done) |grind) |with_reducible intro _)) <;>(first|done|assumption|rfl|omega|exact cl|(simp_all only[D8,D9,Sum.inr.injEq,Sum.inl.injEq,forall_eq',forall_const,true_imp_iff,cond_true,cond_false,and_self];done)))):p:=h
def Hv (k:Tag)(K:List k.T->Option HCon):List Ob->Option HCon
 | [.row k' l] =>if h:k'=k then K (h▸l)else none
 |_=>none
theorem Ey {k:Tag}{K:List k.T->Option HCon}{h:List Ob}{c:HCon}(hh:Hv k K h=some c):∃ l,h=[.row k l]/\K l=some c:=by
 unfold Hv at hh;split at hh
 ·split at hh
  ·rename_i e;subst e;exact⟨_,rfl,hh⟩
  ·cases hh
 ·cases hh
end Go.Sx
end
section
namespace Go.Sx
open Go.Proofs
open IntKind (i64 u64)
theorem czl {p:Prop}(h:p:=by first|(simp only[*,cond_true,cond_false,Bool.not_true,Bool.not_false,go_sem,Nat.reduceBEq,Nat.reduceLeDiff,Nat.reduceLT,decide_true,Nat.reduceAdd,Nat.reduceSub,Nat.reduceMul,Int.reduceLE,Int.reduceLT,Int.reduceToNat,Int.reduceNeg,reduceCtorEq];done) |fail):p:=h
theorem tO {l0:List Nat}(a0:JL l0){p:Prop}(h:JL l0->p:=by intro ja;(first|done|(repeat' (first|with_reducible refine And.intro ?_ ?_|((with_reducible show _≠_);first|assumption|omega|(simp_all [d7,eJ];done) |grind) |with_reducible intro _)) <;>(first|done|with_reducible exact Empty.elim ‹Empty› |with_reducible assumption|rfl|omega|assumption|decide|exact fk ja|exact czl|(simp only[*,cond_true,cond_false,Bool.not_true,Bool.not_false,go_sem,Nat.reduceBEq,Nat.reduceLeDiff,Nat.reduceLT,decide_true,Nat.reduceAdd,Nat.reduceSub,Nat.reduceMul,Int.reduceLE,Int.reduceLT,Int.reduceToNat,Int.reduceNeg,reduceCtorEq];(repeat' (first|with_reducible refine And.intro ?_ ?_|((with_reducible show _≠_);first|assumption|omega|(simp_all [d7,eJ];done) |grind) |with_reducible intro _)) <;>(first|done|assumption|rfl|omega|decide|exact fk ja|(simp_all [d7,eJ];done))) |(simp_all [okI,d7,eJ];done) |(simp_all [d7,eJ];(first|done|exact fk2 ja)) |exact fk2 ja))):p:=h a0
theorem dH {l0:List Nat}(a0:JL l0){p:Prop}(h:JL l0->p:=by intro ja;simp only[go_sem,Nat.reduceBEq,Nat.reduceLeDiff,Nat.reduceLT,decide_true,Nat.reduceAdd,Nat.reduceSub,Nat.reduceMul,Int.reduceLE,Int.reduceLT,Int.reduceToNat,Int.reduceNeg,reduceCtorEq,hc,hw];all_goals exact tO ja):p:=h a0
theorem dI {l0:List Nat}(a0:JL l0){p:Prop}(h:JL l0->p:=by intro ja;simp only[go_sem,Nat.reduceBEq,Nat.reduceLeDiff,Nat.reduceLT,decide_true,Nat.reduceAdd,Nat.reduceSub,Nat.reduceMul,Int.reduceLE,Int.reduceLT,Int.reduceToNat,Int.reduceNeg,reduceCtorEq,hc];all_goals exact tO ja):p:=h a0
def fV (x:Int):Bool:=false
@[go_sem] def mN:List SV->Option Con:=(pI fun x=>(pE (.det True (.v (.bool (fV x))))))
theorem zq1 {p:Prop}(h:p:=by simp only[go_sem,Nat.reduceBEq,Nat.reduceLeDiff,Nat.reduceLT,decide_true,Nat.reduceAdd,Nat.reduceSub,Nat.reduceMul,Int.reduceLE,Int.reduceLT,Int.reduceToNat,Int.reduceNeg,reduceCtorEq];all_goals exact cl):p:=h
theorem qO:FnOk Tryz.prog 62 mN:=by
 have hG:ConsOk Tryz.prog (mkG [] []):=aV cg0 cg0;refine cj [.o] mixed aC hG (fn:=Tryz.f62) (c:=ag Tryz.f62) kr kr kr kr (d_ fun x=>(bw (fun hp=>?_)));dsimp only[bb]at hp;refine⟨nbl rfl,L0,ak _,?_⟩
 ·unfold ag Tryz.f62;try unfold fV
  exact zq1
def cU (x:Int)(y:Int):Int:=(bif(fV x)then(bif(fV y)then 0 else(-1))else(bif(fV y)then 1 else(bif(decide (x<y))then(-1)else(bif(decide (x > y))then 1 else 0))))
@[go_sem] def eT:List SV->Option Con:=(pI fun x=>(pI fun y=>(pE (.det True (.v (.int .i64 (cU x y)))))))
theorem fM:FnOk Tryz.prog 38 eT:=by
 have hG:ConsOk Tryz.prog (mkG [(62,mN)] []):=aV (cgc qO cg0) cg0;refine cj [.o] mixed aC hG (fn:=Tryz.f38) (c:=ag Tryz.f38) kr kr kr kr (d_ fun x=>(d_ fun y=>(bw (fun hp=>?_))));dsimp only[bb]at hp;refine⟨nbl rfl,L0,ak _,?_⟩
 ·unfold ag Tryz.f38;try unfold cU
  exact zq1
def bS (n:Int):Int:=(bif(decide (n<0))then(u64.wrap (0 - (u64.wrap n)))else(u64.wrap n))
@[go_sem] def iR:List SV->Option Con:=(pI fun n=>(pE (.det True (.v (.int .u64 (bS n))))))
theorem kU:FnOk Tryz.prog 89 iR:=by
 have hG:ConsOk Tryz.prog (mkG [] []):=aV cg0 cg0;refine cj [.o] mixed aC hG (fn:=Tryz.f89) (c:=ag Tryz.f89) kr kr kr kr (d_ fun n=>(bw (fun hp=>?_)));dsimp only[bb]at hp;refine⟨nbl rfl,L0,ak _,?_⟩
 ·unfold ag Tryz.f89;try unfold bS
  exact zq1
def bp (a:Ratio):Int:=(bif(((((decide (a.d<1)) ||(decide (a.d > 1073741824))) ||(decide (a.n< (-1073741824)))) ||(decide (a.n > 1073741824))) ||(((yw (Int.toNat (bS a.n)) (Int.toNat (u64.wrap a.d)):Nat):Int) !=1))then 120 else 0)
def oA (a:Ratio):Prop:=(((((decide (a.d<1)) ||(decide (a.d > 1073741824))) ||(decide (a.n< (-1073741824)))) ||(decide (a.n > 1073741824)))=false->(0<=(bS a.n)/\0<=(u64.wrap a.d)))
theorem tP (n:Int):0<=u64.wrap n:=by
 simp[IntKind.wrap,IntKind.bits,IntKind.signed];omega
theorem qP (n:Int):0<=bS n:=by
 unfold bS;cases decide (n<0) <;>exact tP _
theorem tQ (a:Ratio):oA a:=fun _=>⟨qP _,tP _⟩
@[go_sem] def jA:List SV->Option Con:=(pD .ratio fun a=>(pE (.det True (.v (.int .i64 (bp a))))))
theorem zq4 {p:Prop}(h:p:=by simp only[go_sem,Nat.reduceBEq,Nat.reduceLeDiff,Nat.reduceLT,decide_true,Nat.reduceAdd,Nat.reduceSub,Nat.reduceMul,Int.reduceLE,Int.reduceLT,Int.reduceToNat,Int.reduceNeg,reduceCtorEq,C83];all_goals exact cl):p:=h
theorem kV:FnOk Tryz.prog 60 jA:=by
 have hG:ConsOk Tryz.prog (mkG [(88,C83),(89,iR)] []):=aV (cgc Er (cgc kU cg0)) cg0;refine cj [.o] mixed aC hG (fn:=Tryz.f60) (c:=ag Tryz.f60) kr kr kr kr (cq fun a=>(bw (fun hp=>?_)));dsimp only[bb]at hp;have hp:=tQ a;unfold oA at hp;refine⟨nbl rfl,L0,ak _,?_⟩
 ·unfold ag Tryz.f60;try unfold bp
  exact zq4
def lW (a:Ratio)(b:Ratio):Int×Int:=(bif(((bp a) !=0) ||((bp b) !=0))then(0,120)else((cU (i64.wrap (a.n*b.d)) (i64.wrap (b.n*a.d))),0))
@[go_sem] def rB:List SV->Option Con:=(pD .ratio fun a=>(pD .ratio fun b=>(pE (.det True (.tup [.v (.int .i64 ((lW a b).1)),.v (.int .i64 ((lW a b).2))])))))
theorem wT:FnOk Tryz.prog 141 rB:=by
 have hG:ConsOk Tryz.prog (mkG [(38,eT),(60,jA)] []):=aV (cgc fM (cgc kV cg0)) cg0;refine cj [.o,.o] mixed aC hG (fn:=Tryz.f141) (c:=ag Tryz.f141) kr kr kr kr (cq fun a=>(cq fun b=>(bw (fun hp=>?_))));dsimp only[bb]at hp;refine⟨nbl rfl,L0,ak _,?_⟩
 ·unfold ag Tryz.f141;try unfold lW
  exact zq1
def uu (ok:Bool)(e:Int):Unit:=(bif(!ok)then default else())
def cd (ok:Bool)(e:Int):Bool:=(bif(!ok)then false else true)
@[go_sem] def j9:List SV->Option Con:=(pB fun ok=>(pI fun e=>(pE (.may (cd ok e) (.tup []) (.iface 135 (.int .i64 e))))))
theorem lX:FnOk Tryz.prog 58 j9:=by
 have hG:ConsOk Tryz.prog (mkG [] []):=aV cg0 cg0;refine cj [] mixed aC hG (fn:=Tryz.f58) (c:=ag Tryz.f58) kr kr kr kr (Kp fun ok=>(d_ fun e=>(bw (fun hp=>?_))));dsimp only[bb]at hp;refine⟨nbl rfl,L0,ak _,?_⟩
 ·unfold ag Tryz.f58;try unfold uu
  try unfold cd
  exact zq1
@[go_sem] def bt (l_:List Int)(k_0:Nat)(s_0:Unit):Unit⊕Unit:=(bif(decide ((l_.getD (Int.toNat ((k_0:Int)+1)) 0) < (l_.getD (Int.toNat (i64.wrap (((k_0:Int)+1) - 1))) 0)))then .inl ()else .inr ())
def fN (l_:List Int)(k_0:Nat)(s_0:Unit):Prop:=(l_.length<=bR->((0<=((k_0:Int)+1)/\((k_0:Int)+1) < (l_.length:Int))/\(0<=(i64.wrap (((k_0:Int)+1) - 1))/\(i64.wrap (((k_0:Int)+1) - 1)) < (l_.length:Int))))
def aw (l_:List Int):Bool:=(match aq (bt l_) (l_.length - 1) 0 ()with| .inl x_0_0=>false| .inr s_0=>true)
def mO (l_:List Int):Prop:=okI (bt l_) (fN l_) (l_.length - 1) 0 ()
theorem qQ (l_:List Int):mO l_:=mB _ _ _ fun j s h1 h2 hm=>by
 unfold bR at hm;rw[bB (by omega) (by omega)];omega
@[go_sem] def io:List SV->Option Con:=(pR .int fun l_=>(pE (.det True (.v (.bool (aw l_))))))
theorem zq7 {p:Prop}(h:p:=by simp only[go_sem,Nat.reduceBEq,Nat.reduceLeDiff,Nat.reduceLT,decide_true,Nat.reduceAdd,Nat.reduceSub,Nat.reduceMul,Int.reduceLE,Int.reduceLT,Int.reduceToNat,Int.reduceNeg,reduceCtorEq,hb0]):p:=h
theorem zq8 {p:Prop}(h:p:=by simp only[go_sem,Nat.reduceBEq,Nat.reduceLeDiff,Nat.reduceLT,decide_true,Nat.reduceAdd,Nat.reduceSub,Nat.reduceMul,Int.reduceLE,Int.reduceLT,Int.reduceToNat,Int.reduceNeg,reduceCtorEq,bt,hc0,hw0];all_goals exact cl):p:=h
theorem zq9 {p:Prop}(h:p:=by simp only[go_sem,Nat.reduceBEq,Nat.reduceLeDiff,Nat.reduceLT,decide_true,Nat.reduceAdd,Nat.reduceSub,Nat.reduceMul,Int.reduceLE,Int.reduceLT,Int.reduceToNat,Int.reduceNeg,reduceCtorEq,hc0];all_goals exact cl2):p:=h
theorem jt:FnOk Tryz.prog 84 io:=by
 have hG:ConsOk Tryz.prog (mkG [] []):=aV cg0 cg0;refine cj [.o] mixed aC hG (fn:=Tryz.f84) (c:=ag Tryz.f84) kr kr kr kr (gn fun l_=>(bw (fun hp=>?_)));dsimp only[bb]at hp;have hp:=qQ l_;unfold mO at hp;refine⟨nbl rfl,(fun id st=>bif Nat.beq id 0 then some (LC (ρ:=Unit) (σ:=Unit) (lk 0 st.t=.rs .int l_/\lk 3 st.t=.v (.int .i64 1)/\st.h=[]/\okI (bt l_) (fN l_) (l_.length - 1) 0 ()) (aq (bt l_) (l_.length - 1) 0 ()) (fun _=>.ret) (fun x_0_0=>⟨[(2,.v (.bool false))],[]⟩) (fun s_0=>⟨[],[]⟩))else none),?_,?_⟩
 ·unfold ag Tryz.f84;simp only[ap,true_and,and_true]
  ·refine Cp mixed aC hG kr fun st lc hC hp=>?_;simp only[go_sem,Nat.reduceBEq,Option.some.injEq]at hC;subst hC;obtain⟨t,h⟩:=st;dsimp only[LC]at hp;obtain⟨e0_0,e0_1,rfl,hok0⟩:=hp;refine⟨_,_,_,(bt l_),(fN l_),(l_.length - 1),(),_,_,_,(fun k_0 s_0=>⟨[(0,.rs .int l_),(3,.v (.int .i64 ((k_0:Int)+1)))],[]⟩),[],rfl,hok0,Nat.le_refl _,?_,fun k_0 s_0 hk0 hp0=>?_⟩
   ·simp only[go_sem,Nat.reduceBEq,Nat.reduceLeDiff,Nat.reduceLT,decide_true,Nat.reduceAdd,Nat.reduceSub,Nat.reduceMul,Int.reduceLE,Int.reduceLT,Int.reduceToNat,Int.reduceNeg,reduceCtorEq,e0_0,e0_1];all_goals (first|done|decide|(repeat' (first|refine And.intro ?_ ?_|rfl|decide)))
   refine⟨L0,?_,?_⟩
   ·simp only[ap,and_self,true_and,and_true]
   ·by_cases hb0:l_.length<=bR
    rotate_left
    ·exact zq7
    ·by_cases hlt0:k_0< (l_.length - 1)
     ·have hw0:i64.wrap (((k_0:Nat):Int)+1+1)=((k_0+1:Nat):Int)+1:=by(have hbb:=hb0;have hll:=hlt0;try unfold bR at hbb);rw[bB (by omega) (by omega)];omega
      have hq0:=hp0 hlt0;unfold fN at hq0
      replace hq0:=hq0 hb0
      try simp only[hw0,Int.toNat_natCast]at hq0
      have hc0:decide (((k_0:Int)+1) < (l_.length:Int))=true:=by simp only[decide_eq_true_eq];omega
      exact zq8
     ·have hc0:decide (((k_0:Int)+1) < (l_.length:Int))=false:=by simp only[decide_eq_false_iff_not];omega
      exact zq9
 ·unfold ag Tryz.f84;try unfold aw
  exact zq1
def cw (i:Int)(n:Int):Bool:=((decide (i>=0))&&(decide (i<n)))
@[go_sem] def iS:List SV->Option Con:=(pI fun i=>(pI fun n=>(pE (.det True (.v (.bool (cw i n)))))))
theorem j_:FnOk Tryz.prog 86 iS:=by
 have hG:ConsOk Tryz.prog (mkG [] []):=aV cg0 cg0;refine cj [.o] mixed aC hG (fn:=Tryz.f86) (c:=ag Tryz.f86) kr kr kr kr (d_ fun i=>(d_ fun n=>(bw (fun hp=>?_))));dsimp only[bb]at hp;refine⟨nbl rfl,L0,ak _,?_⟩
 ·unfold ag Tryz.f86;try unfold cw
  exact zq1
def mD (x:Ratio×Ratio):Bool:=(((((lW x.1 x.2).2==0)&&(decide (x.1.n>=0)))&&(decide ((lW x.1 x.2).1<=0)))&&(decide (x.2.n<=x.2.d)))
@[go_sem] def nB:List SV->Option Con:=(pD .ratio2 fun x=>(pE (.det True (.v (.bool (mD x))))))
theorem rS:FnOk Tryz.prog 115 nB:=by
 have hG:ConsOk Tryz.prog (mkG [(141,rB)] []):=aV (cgc wT cg0) cg0;refine cj [.o] mixed aC hG (fn:=Tryz.f115) (c:=ag Tryz.f115) kr kr kr kr (cq fun x=>(bw (fun hp=>?_)));dsimp only[bb]at hp;refine⟨nbl rfl,L0,ak _,?_⟩
 ·unfold ag Tryz.f115;try unfold mD
  exact zq1
def iT (i:Int)(x:Reach):Bool:=letI q0:=aw ([0,x.evap.lo,x.evap.hi,1073741824]);letI q1:=aw ([0,x.siphon,x.bank,1099511627776]);letI q2:=aw ([0,x.siphon,x.cap,1073741824]);letI q3:=aw ([1,x.delay,16]);letI q4:=mD x.seep;(bif(decide (i > 0))then((((((cw x.up i)&&q3)&&q2)&&q1)&&q0)&&q4)else((((((x.up==(-1))&&q3)&&q2)&&q1)&&q0)&&q4))
@[go_sem] def nC:List SV->Option Con:=(pI fun i=>(pD .reach fun x=>(pE (.det True (.v (.bool (iT i x)))))))
theorem rT:FnOk Tryz.prog 85 nC:=by
 have hG:ConsOk Tryz.prog (mkG [(84,fun l=>io (dJ [.sl .int] l)),(86,iS),(115,nB)] []):=aV (cgc (jt.norm [.sl .int]) (cgc j_ (cgc rS cg0))) cg0;refine cj [.o] mixed aC hG (fn:=Tryz.f85) (c:=ag Tryz.f85) kr kr kr kr (d_ fun i=>(cq fun x=>(bw (fun hp=>?_))));dsimp only[bb]at hp;refine⟨nbl rfl,L0,ak _,?_⟩
 ·unfold ag Tryz.f85;try unfold iT
  exact zq1
def gJ (a0:District)(a1:Right):Bool:=letI q0:=(a1.every==0)&&(a1.length==0);letI q1:=i64.wrap (a0.hours - 1);letI q2:=a1.reach==a1.reach;letI q3:=a1.name==a1.name;letI q4:=a1.kind==a1.kind;letI q5:=a1.farm==a1.farm;(bif(((!(cw a1.farm (a0.farms.length:Int))) ||(!(cw a1.reach (a0.reaches.length:Int)))) ||(!(aw ([0,a1.since,a1.to,q1]))))then false else(bif(a1.kind==1)then((((a1.reach==0)&&(aw ([0,a1.rank,1048576])))&&(aw ([1,a1.litres,1073741824])))&&(aw ([1,a1.length,a1.every,a0.hours])))else(bif(a1.kind==2)then(q3&&(q4&&(q5&&(q2&&((a1.rank==0)&&((a1.litres==0)&&((a1.since==0)&&((a1.to==q1)&&q0))))))))else(bif(a1.kind==3)then(q3&&(q4&&(q5&&(q2&&((a1.rank==0)&&((a1.litres==0)&&((a1.since==a1.since)&&((a1.to==a1.to)&&q0))))))))else false))))
@[go_sem] def nD:List SV->Option Con:=(pD .district fun a0=>(pD .right fun a1=>(pE (.det True (.v (.bool (gJ a0 a1)))))))
theorem rU:FnOk Tryz.prog 87 nD:=by
 have hG:ConsOk Tryz.prog (mkG [(84,fun l=>io (dJ [.sl .int] l)),(86,iS)] []):=aV (cgc (jt.norm [.sl .int]) (cgc j_ cg0)) cg0;refine cj [.o] mixed aC hG (fn:=Tryz.f87) (c:=ag Tryz.f87) kr kr kr kr (cq fun a0=>(cq fun a1=>(bw (fun hp=>?_))));dsimp only[bb]at hp;refine⟨nbl rfl,L0,ak _,?_⟩
 ·unfold ag Tryz.f87;try unfold gJ
  exact zq1
@[go_sem] def dY (a0:District)(a1:Int)(k_0:Nat)(s_0:Unit):Unit⊕Unit:=(bif(cd (iT (k_0:Int) (a0.reaches.getD k_0 default)) a1)then .inr ()else .inl ())
@[go_sem] def eU (a0:District)(a1:Int)(k_1:Nat)(s_1:Unit):Unit⊕Unit:=(bif(cd (aw ([0,(a0.crops.getD k_1 default).need,1048576])) a1)then .inr ()else .inl ())
@[go_sem] def dZ (a0:District)(a1:Int)(k_2:Nat)(s_2:Unit):Unit⊕Unit:=letI q0:=a0.farms.getD k_2 default;letI q1:=cw (q0.reach) (a0.reaches.length:Int);letI q2:=aw ([0,q0.area,1048576]);(bif(decide (q0.area > 0))then(bif(cd (((cw (q0.crop) (a0.crops.length:Int))&&q1)&&q2) a1)then .inr ()else .inl ())else(bif(cd (((q0.crop==(-1))&&q1)&&q2) a1)then .inr ()else .inl ()))
@[go_sem] def d4 (a0:District)(a1:Int)(k_3:Nat)(s_3:Unit):Unit⊕Unit:=(bif(cd (gJ a0 (a0.rights.getD k_3 default)) a1)then .inr ()else .inl ())
@[go_sem] def eV (a0:District)(a1:Int)(k_4:Nat)(s_4:Unit):Unit⊕Unit:=letI q0:=a0.duties.getD k_4 default;(bif(cd (((cw (q0.farm) (a0.farms.length:Int))&&(cw (q0.reach) (a0.reaches.length:Int)))&&(aw ([0,q0.due,a0.hours]))) a1)then .inr ()else .inl ())
def tR (a0:District)(a1:Int):Unit:=(bif(cd (((aw ([1,a0.hours,4096]))&&(aw ([0,a0.tank.start,a0.tank.cap,1099511627776])))&&(decide ((a0.reaches.length:Int) > 0))) a1)then(match aq (dY a0 a1) a0.reaches.length 0 ()with| .inl x_0_0=>default| .inr s_0=>(match aq (eU a0 a1) a0.crops.length 0 ()with| .inl x_1_0=>default| .inr s_1=>(match aq (dZ a0 a1) a0.farms.length 0 ()with| .inl x_2_0=>default| .inr s_2=>(match aq (d4 a0 a1) a0.rights.length 0 ()with| .inl x_3_0=>default| .inr s_3=>(match aq (eV a0 a1) a0.duties.length 0 ()with| .inl x_4_0=>default| .inr s_4=>())))))else default)
def da (a0:District)(a1:Int):Bool:=(bif(cd (((aw ([1,a0.hours,4096]))&&(aw ([0,a0.tank.start,a0.tank.cap,1099511627776])))&&(decide ((a0.reaches.length:Int) > 0))) a1)then(match aq (dY a0 a1) a0.reaches.length 0 ()with| .inl x_0_0=>false| .inr s_0=>(match aq (eU a0 a1) a0.crops.length 0 ()with| .inl x_1_0=>false| .inr s_1=>(match aq (dZ a0 a1) a0.farms.length 0 ()with| .inl x_2_0=>false| .inr s_2=>(match aq (d4 a0 a1) a0.rights.length 0 ()with| .inl x_3_0=>false| .inr s_3=>(match aq (eV a0 a1) a0.duties.length 0 ()with| .inl x_4_0=>false| .inr s_4=>true)))))else false)
@[go_sem] def lY:List SV->Option Con:=(pD .district fun a0=>(pI fun a1=>(pE (.may (da a0 a1) (.tup []) (.iface 135 (.int .i64 a1))))))
theorem pP:FnOk Tryz.prog 59 lY:=by
 have hG:ConsOk Tryz.prog (mkG [(58,j9),(84,fun l=>io (dJ [.sl .int] l)),(85,nC),(86,iS),(87,fun l=>nD (dJ [.st .district,.st .right] l))] []):=aV (cgc lX (cgc (jt.norm [.sl .int]) (cgc rT (cgc j_ (cgc (rU.norm [.st .district,.st .right]) cg0))))) cg0;refine cj [] mixed aC hG (fn:=Tryz.f59) (c:=ag Tryz.f59) kr kr kr kr (cq fun a0=>(d_ fun a1=>(bw (fun hp=>?_))));dsimp only[bb]at hp;refine⟨nbl rfl,(fun id st=>bif Nat.beq id 0 then some (LCR (ρ:=Unit) (σ:=Unit) 1 [] [0] (fun k_0 s_0=>⟨[(1,.v (.int .i64 a1)),(2,.ptr 0 0),(38,.rs .reach a0.reaches),(39,.v (.int .i64 (a0.reaches.length:Int))),(40,.v (.int .i64 (k_0:Int)))],[.cells (cellsOf .district a0)]⟩) (dY a0 a1) pT a0.reaches.length () (a0.reaches.length<=bR) (fun _=>.pan (.iface 135 (.int .i64 a1))) (fun x_0_0=>⟨[],[.dead]⟩) st)else bif Nat.beq id 2 then some (LCR (ρ:=Unit) (σ:=Unit) 1 [] [0] (fun k_1 s_1=>⟨[(1,.v (.int .i64 a1)),(2,.ptr 0 0),(52,.rs .crop a0.crops),(53,.v (.int .i64 (a0.crops.length:Int))),(54,.v (.int .i64 (k_1:Int)))],[.cells (cellsOf .district a0)]⟩) (eU a0 a1) pT a0.crops.length () (a0.crops.length<=bR) (fun _=>.pan (.iface 135 (.int .i64 a1))) (fun x_1_0=>⟨[],[.dead]⟩) st)else bif Nat.beq id 4 then some (LCR (ρ:=Unit) (σ:=Unit) 1 [] [0] (fun k_2 s_2=>⟨[(1,.v (.int .i64 a1)),(2,.ptr 0 0),(66,.rs .farm a0.farms),(67,.v (.int .i64 (a0.farms.length:Int))),(68,.v (.int .i64 (k_2:Int)))],[.cells (cellsOf .district a0)]⟩) (dZ a0 a1) pT a0.farms.length () (a0.farms.length<=bR) (fun _=>.pan (.iface 135 (.int .i64 a1))) (fun x_2_0=>⟨[],[.dead]⟩) st)else bif Nat.beq id 6 then some (LCR (ρ:=Unit) (σ:=Unit) 1 [] [0] (fun k_3 s_3=>⟨[(1,.v (.int .i64 a1)),(2,.ptr 0 0),(103,.rs .right a0.rights),(104,.v (.int .i64 (a0.rights.length:Int))),(105,.v (.int .i64 (k_3:Int)))],[.cells (cellsOf .district a0)]⟩) (d4 a0 a1) pT a0.rights.length () (a0.rights.length<=bR) (fun _=>.pan (.iface 135 (.int .i64 a1))) (fun x_3_0=>⟨[],[.dead]⟩) st)else bif Nat.beq id 8 then some (LCR (ρ:=Unit) (σ:=Unit) 1 [] [0] (fun k_4 s_4=>⟨[(1,.v (.int .i64 a1)),(2,.ptr 0 0),(116,.rs .duty a0.duties),(117,.v (.int .i64 (a0.duties.length:Int))),(118,.v (.int .i64 (k_4:Int)))],[.cells (cellsOf .district a0)]⟩) (eV a0 a1) pT a0.duties.length () (a0.duties.length<=bR) (fun _=>.pan (.iface 135 (.int .i64 a1))) (fun x_4_0=>⟨[],[.dead]⟩) st)else none),?_,?_⟩
 ·unfold ag Tryz.f59;simp only[ap,true_and,and_true];refine⟨?_,?_,?_,?_,?_⟩
  ·refine ew mixed aC hG kr (fun _=>rfl) (a0.reaches.length:Int) rfl mT (fun hb0 k_0 s_0 hlt0 _ hw hc=>⟨L0,ak _,?_⟩) (fun hb0 s_0 hc=>?_)
   ·exact dH (jl [0])
   ·exact dI (jl [0])
  ·refine ew mixed aC hG kr (fun _=>rfl) (a0.crops.length:Int) rfl mT (fun hb1 k_1 s_1 hlt1 _ hw hc=>⟨L0,ak _,?_⟩) (fun hb1 s_1 hc=>?_)
   ·exact dH (jl [0])
   ·exact dI (jl [0])
  ·refine ew mixed aC hG kr (fun _=>rfl) (a0.farms.length:Int) rfl mT (fun hb2 k_2 s_2 hlt2 _ hw hc=>⟨L0,ak _,?_⟩) (fun hb2 s_2 hc=>?_)
   ·exact dH (jl [0])
   ·exact dI (jl [0])
  ·refine ew mixed aC hG kr (fun _=>rfl) (a0.rights.length:Int) rfl mT (fun hb3 k_3 s_3 hlt3 _ hw hc=>⟨L0,ak _,?_⟩) (fun hb3 s_3 hc=>?_)
   ·exact dH (jl [0])
   ·exact dI (jl [0])
  ·refine ew mixed aC hG kr (fun _=>rfl) (a0.duties.length:Int) rfl mT (fun hb4 k_4 s_4 hlt4 _ hw hc=>⟨L0,ak _,?_⟩) (fun hb4 s_4 hc=>?_)
   ·exact dH (jl [0])
   ·exact dI (jl [0])
 ·unfold ag Tryz.f59;try unfold tR
  try unfold da
  exact zq1
def bY (d:District):Int:=(bif(cd (((((decide ((d.reaches.length:Int)<=64))&&(decide ((d.farms.length:Int)<=600)))&&(decide ((d.crops.length:Int)<=32)))&&(decide ((d.rights.length:Int)<=256)))&&(decide ((d.duties.length:Int)<=256))) 2)then(bif(da d 191)then 0 else 191)else 2)
@[go_sem] def nE:List SV->Option Con:=(pD .district fun d=>(pE (.det True (.v (.int .i64 (bY d))))))
theorem zq16 {p:Prop}(h:p:=by simp only[go_sem,Nat.reduceBEq,Nat.reduceLeDiff,Nat.reduceLT,decide_true,Nat.reduceAdd,Nat.reduceSub,Nat.reduceMul,Int.reduceLE,Int.reduceLT,Int.reduceToNat,Int.reduceNeg,reduceCtorEq,Cr,Ab,Kh];all_goals exact cl):p:=h
theorem rV:FnOk Tryz.prog 24 nE:=by
 have hG:ConsOk Tryz.prog (mkG [(58,j9),(59,fun l=>lY (dJ [.st .district,.o] l))] []):=aV (cgc lX (cgc (pP.norm [.st .district,.o]) cg0)) cg0;refine Kc Em [.o] mixed aC hG (fn:=Tryz.f24) (c0:=Cr (ag Tryz.f24)) (c1:=Ab (Ab (ag Tryz.f24))) (i1:=regI (Cr (Ab (ag Tryz.f24)))) (o1:=Ok 0 (Cr (Ab (ag Tryz.f24)))) (o2:=Ok 1 (Cr (Ab (ag Tryz.f24)))) (t3:=3) (q:=2) (tys:= #[]) kr kr kr (by refine⟨?_,?_,?_⟩ <;>kernel_rfl) (by refine⟨?_,?_,?_⟩ <;>kernel_rfl) (nbl rfl) kr kr (cq fun d=>(bw (fun hp=>?_)));dsimp only[bb]at hp;refine⟨nbl rfl,L0,L0,1,?_,?_,?_⟩
 ·unfold ag Tryz.f24;simp only[Cr,ap,and_self,true_and,and_true]
 ·unfold ag Tryz.f24;simp only[Ab];simp only[ap,and_self,true_and,and_true]
 ·unfold ag Tryz.f24;try unfold bY
  exact zq16
def nU (d:District):Bool:=((((((decide ((d.reaches.length:Int)<=100))&&(decide ((d.farms.length:Int)<=700)))&&(decide ((d.crops.length:Int)<=100)))&&(decide ((d.rights.length:Int)<=300)))&&(decide ((d.duties.length:Int)<=300)))&&(decide ((d.wells.length:Int)<=100)))
@[go_sem] def rC:List SV->Option Con:=(pD .district fun d=>(pE (.det True (.v (.bool (nU d))))))
theorem wU:FnOk Tryz.prog 35 rC:=by
 have hG:ConsOk Tryz.prog (mkG [] []):=aV cg0 cg0;refine cj [.o] mixed aC hG (fn:=Tryz.f35) (c:=ag Tryz.f35) kr kr kr kr (cq fun d=>(bw (fun hp=>?_)));dsimp only[bb]at hp;refine⟨nbl rfl,L0,ak _,?_⟩
 ·unfold ag Tryz.f35;try unfold nU
  exact zq1
end Go.Sx
end
section
namespace Go.Sx
open Go.RowKit
open IntKind (i64)
abbrev RF:= { r:Nat->Res // ∀ k,(r k).n=k}
def Hw (items:List (List SV))(r:RF):List SV->Res->Option YCon:=itY items r.1
@[go_sem] theorem Qp {items:List (List SV)}{r:RF}{k:Nat}{args:List SV}:Hw items r args (r.1 (k+1))=some (yo (items[k]? =some args) r.1 (k+2)):=D6 r.2 k args
section
variable {ρ σ:Type}
def lcy (pre:Prop)(run:ρ⊕σ)(exE:ρ->Ex)(outE:ρ->St)(outN:σ->St)(stp:St):LCon where
 α:=Option (ρ⊕σ)
 pre:=pre
 post:=fun|none=>True|some r=>r=run
 ex:=fun|none=>.ret|some (.inl x) =>exE x|some (.inr _) =>.normal
 out:=fun|none=>stp|some (.inl x) =>outE x|some (.inr s) =>outN s
def LCY (m:Nat)(ns:List NLoc)(js:List Nat)(D:Nat->σ->St)(step:Nat->σ->ρ⊕σ)(p:Nat->σ->Prop)(n:Nat)(s0:σ)(B:Prop)(exE:ρ->Ex)(outE:ρ->St)(stp:St)(st:St):LCon:=
 lcy (mC m ns js st (D 0 s0)/\B/\okI step p n 0 s0) (aq step n 0 s0) exE outE (D n) stp
variable {m:Nat}{ns:List NLoc}{js:List Nat}{step:Nat->σ->ρ⊕σ}{p:Nat->σ->Prop}{n:Nat}{s0:σ}{B:Prop}{exE:ρ->Ex}{outE:ρ->St}{stp st:St}{Q:Ex->St->Prop}{D:Nat->σ->St}
theorem Cu {pre:Prop}{run:ρ⊕σ}{outN:σ->St}:kO Q (some (lcy pre run exE outE outN stp))=(pre/\(∀ x,run=.inl x->Q (exE x) (outE x))/\(∀ s,run=.inr s->Q .normal (outN s))/\Q .ret stp):=by
 apply propext;constructor
 ·rintro⟨h1,h2⟩;exact⟨h1,fun x hx=>h2 (some (.inl x)) hx.symm,fun s hs=>h2 (some (.inr s)) hs.symm,h2 none trivial⟩
 ·rintro⟨h1,h2,h3,h4⟩;refine⟨h1,fun r hr=>?_⟩;match r,hr with
  |none,_=>exact h4
  |some (.inl x),hr=>exact h2 x hr.symm
  |some (.inr s),hr=>exact h3 s hr.symm
@[go_sem] theorem MJ:kO Q (some (LCY m ns js D step p n s0 B exE outE stp st))=((mC m ns js st (D 0 s0)/\B/\okI step p n 0 s0)/\(∀ x,aq step n 0 s0=.inl x->Q (exE x) (outE x))/\(∀ s,aq step n 0 s0=.inr s->Q .normal (D n s))/\Q .ret stp):=Cu
def cY (step:Nat->σ->ρ⊕σ)(exE:ρ->Ex)(outE:ρ->St)(D:Nat->σ->St)(stp:St)(m id k:Nat)(s:σ):Ex->St->Prop
 | .normal,st=>lV D m k st (step k s)
 | .exit j,st=>iQ exE outE m (bif Nat.beq j id then .normal else .exit j) st (step k s)
 | .ret,st=>iQ exE outE m .ret st (step k s)\/fm stp m st
 | .pan x,st=>iQ exE outE m (.pan x) st (step k s)
variable {id k j:Nat}{s:σ}{x:Value}{e e':Ex}
@[go_sem] theorem MK:cY step exE outE D stp m id k s .normal st=lV D m k st (step k s):=(rfl)
@[go_sem] theorem Qq:cY step exE outE D stp m id k s (.exit j) st=iQ exE outE m (bif Nat.beq j id then .normal else .exit j) st (step k s):=(rfl)
@[go_sem] theorem Rg:cY step exE outE D stp m id k s .ret st=(iQ exE outE m .ret st (step k s)\/fm stp m st):=(rfl)
@[go_sem] theorem Rh:cY step exE outE D stp m id k s (.pan x) st=iQ exE outE m (.pan x) st (step k s):=(rfl)
@[congr] theorem OG {st':St}(h:st=st')(he:e=e'):cY step exE outE D stp m id k s e st=cY step exE outE D stp m id k s e' st':=by rw[h,he]
end
section
variable {P:Program}{ρ σ:Type}{ts:Tis}{G:Cons}{ro:Option Nat}{N:Nat}{id:Nat}{c:Code}{C:St->Option LCon}{m:Nat}{ns:List NLoc}{js:List Nat}{step:Nat->σ->ρ⊕σ}{p:Nat->σ->Prop}{n:Nat}{s0:σ}{exE:ρ->Ex}{outE:ρ->St}{D:Nat->σ->St}{stp:St}
theorem Kr {n0:Nat}(hn0:n0=m){s:σ}{k:Nat}(hlt:k<n){I:Nat×σ->Prop}{μ:Nat×σ->Nat}{outN:σ->St}{pre:Prop}{run:ρ⊕σ}
  (hI:∀ s',step k s=.inr s'->I (k+1,s')/\μ (k+1,s') <μ (k,s)) (hx:∀ x,step k s=.inl x->run=.inl x):
  ∀ e st',cY step exE outE D stp m id k s e st'->mu (fun x:Nat×σ=>D x.1 x.2) I μ n0 (k,s) id (fun e st'=>∃ r js,(lcy pre run exE outE outN stp).post r/\(lcy pre run exE outE outN stp).ex r=e/\n0<=((lcy pre run exE outE outN stp).out r).h.length/\Sub js n0 st' ((lcy pre run exE outE outN stp).out r)) e st':=by
 subst hn0;have hfin:∀ e st',iQ exE outE n0 e st' (step k s)->∃ r js,(lcy pre run exE outE outN stp).post r/\(lcy pre run exE outE outN stp).ex r=e/\n0<=((lcy pre run exE outE outN stp).out r).h.length/\Sub js n0 st' ((lcy pre run exE outE outN stp).out r):=by
  intro e st' q;cases hs:step k s with
  |inr s'=>rw[hs]at q;exact q.elim
  |inl x=>
   rw[hs]at q;obtain⟨q2,js,q3,q4⟩:=q;exact⟨some (.inl x),js,(hx x hs).symm,q2,q3,q4⟩
 intro e st' hq;cases e with
 |normal=>
  change lV D n0 k st' (step k s)at hq;cases hs:step k s with
  |inl x=>rw[hs]at hq;exact hq.elim
  |inr s'=>
   rw[hs]at hq;obtain⟨js,q3,q4⟩:=hq;obtain⟨i1,i2⟩:=hI s' hs;exact⟨(k+1,s'),js,i1,i2,q3,q4⟩
 |exit j=>
  change iQ exE outE n0 (bif Nat.beq j id then .normal else .exit j) st' (step k s)at hq;show bif Nat.beq j id then _ else _;cases hb:Nat.beq j id with
  |true=>rw[hb]at hq;exact hfin _ _ hq
  |false=>rw[hb]at hq;exact hfin _ _ hq
 |ret=>
  rcases hq with hq|hq
  ·exact hfin _ _ hq
  ·obtain⟨js,q3,q4⟩:=hq;exact⟨none,js,trivial,rfl,q3,q4⟩
 |pan x=>exact hfin _ _ hq
theorem Ez {B:Prop}(hm:P.follows .mixedOrders=true)(hts:ts.ok P)(hG:ConsOk P G)(hc:ca N c=true)(hC:∀ st,C st=some (LCY m ns js D step p n s0 B exE outE stp st))(M:Int)(hn:n=M.toNat)(hB:B->M<9223372036854775808)
  (h:B->∀ k s,k<n->p k s->i64.wrap ((k:Int)+1)=((k+1:Nat):Int)->decide ((k:Int) <M)=true->∃ L,ap P ro N L c/\exec ts G L c (D k s) (cY step exE outE D stp m id k s))
  (h2:B->∀ s,decide ((n:Int) <M)=false->exec ts G L0 c (D n s) (cZ (D n s) m id)):gT P ro N id (.loop c) C:=by
 refine pN hm hts hG hc fun st lc hC' hp=>?_;rw[hC st]at hC';cases hC';obtain⟨⟨hlen,hok,hle,hsub⟩,hB',h1⟩:=hp;refine⟨Nat×σ,fun x=>D x.1 x.2,fun x=>x.1<=n/\okI step p (n - x.1) x.1 x.2/\aq step (n - x.1) x.1 x.2=aq step n 0 s0,fun x=>n - x.1,(0,s0),mkN ns st,js,⟨Nat.zero_le _,by simpa using h1,by simp⟩,oY ns st st (.refl _) hok,by rw[hlen];exact hle,by rw[hlen];exact hsub,?_⟩;rintro⟨k,s⟩ ⟨hk,hJ,hrun⟩;simp only at hk hJ hrun;rcases Nat.lt_or_ge k n with hlt|hge
 ·rw[show n - k=(n - k - 1)+1 by omega]at hrun hJ;obtain⟨L,hl,hex⟩:=h hB' k s hlt hJ.1 (D_ (hn▸hlt) (hB hB')) (decide_eq_true (by omega));have hI:∀ s',step k s=.inr s'->okI step p (n - (k+1)) (k+1) s'/\aq step (n - (k+1)) (k+1) s'=aq step n 0 s0:=fun s' hs=>by
   have:=hJ.2 s' hs;rw[show n - k - 1=n - (k+1) by omega]at this hrun;simp only[aq,hs]at hrun;exact⟨this,hrun⟩
  have hx:∀ x,step k s=.inl x->aq step n 0 s0=.inl x:=fun x hs=>by
   simp only[aq,hs]at hrun;exact hrun.symm
  exact⟨L,_,hl,fun e st' q=>Kr hlen hlt (fun s' hs=>⟨⟨hlt,hI s' hs⟩,by simp only;omega⟩) hx e st' q,hex⟩
 ·have hkn:k=n:=by omega
  subst hkn;have hex:=h2 hB' s (by rw[decide_eq_false_iff_not];omega);refine⟨L0,_,ak c,fun e st' hq=>?_,hex⟩;simp only[Nat.sub_self,aq]at hrun;cases e with
  |exit j=>
   change bif Nat.beq j id then fm (D k s) m st' else False at hq;show bif Nat.beq j id then _ else _;cases hb:Nat.beq j id with
   |true=>
    rw[hb]at hq;obtain⟨js,q3,q4⟩:=hq;exact⟨some (.inr s),js,hrun,rfl,by rw[hlen];exact q3,by rw[hlen];exact q4⟩
   |false=>rw[hb]at hq;exact hq.elim
  |_=>exact hq.elim
end
def jR (n:Nat):List Ob:=List.replicate n .dead
def EA (items:List (List SV))(r:RF)(n:Nat):Ex->St->Prop
 | .normal,st=>fm ⟨[],.ab (r.1 0)::jR n⟩ (n+1) ⟨[],st.h⟩\/fm ⟨[],.ab (r.1 (items.length+1))::jR n⟩ (n+1) ⟨[],st.h⟩
 | .ret,st=>fm ⟨[],.ab (r.1 0)::jR n⟩ (n+1) ⟨[],st.h⟩\/fm ⟨[],.ab (r.1 (items.length+1))::jR n⟩ (n+1) ⟨[],st.h⟩
 |_,_=>False
section
variable {items:List (List SV)}{r:RF}{n:Nat}{st:St}{e e':Ex}
@[go_sem] theorem Hz:EA items r n .normal st=(fm ⟨[],.ab (r.1 0)::jR n⟩ (n+1) ⟨[],st.h⟩\/fm ⟨[],.ab (r.1 (items.length+1))::jR n⟩ (n+1) ⟨[],st.h⟩):=(rfl)
@[go_sem] theorem ML:EA items r n .ret st=(fm ⟨[],.ab (r.1 0)::jR n⟩ (n+1) ⟨[],st.h⟩\/fm ⟨[],.ab (r.1 (items.length+1))::jR n⟩ (n+1) ⟨[],st.h⟩):=(rfl)
@[go_sem] theorem Qr:jR 0=[]:=(rfl)
@[go_sem] theorem Qs:jR 1=[.dead]:=(rfl)
@[go_sem] theorem Qt:jR 2=[.dead,.dead]:=(rfl)
@[go_sem] theorem Qu:jR 3=[.dead,.dead,.dead]:=(rfl)
@[go_sem] theorem Qv:jR 4=[.dead,.dead,.dead,.dead]:=(rfl)
end
theorem yx {js:List Nat}{n0:Nat}{h h':List Ob}(q:Sub js n0 ⟨[],h⟩ ⟨[],h'⟩):Sub js n0 ⟨[(0,.tup [])],h⟩ ⟨[(0,.tup [])],h'⟩:=by
 refine⟨q.1,?_,q.2.2⟩;simp only[BQ,lk];exact⟨⟨rfl,rfl⟩,trivial⟩
open Classical in
theorem Ks {P:Program} {ts:Tis} {G:RF->Cons} (hm:P.follows .mixedOrders=true) (hts:ts.ok P) {f:FuncId} {fn:Func} {c:Code} (hf:P.funcs[f]? =some fn) (hb:fn.body=some c) (hname:(fn.name== "runtime.NumGoroutine")=false) (hc:ca fn.ntmps c=true) (hr:fn.results.toList=[])
  {items:List (List SV)} {mk:SV->List SV} {hs:List Ob} {n:Nat} (hn:hs.length=n)
  (h:∀ r:RF,YOk P (Hw items r)->ConsOk P (G r)/\(mk (.os 0)).length<=fn.ntmps/\∃ L,ap P none fn.ntmps L c/\exec ts (G r) L c ⟨iJ 0 (mk (.os 0)),.ab (r.1 1)::hs⟩ (EA items r n))
  (he:∀ (args:Array Value) (w:World),(callFunc f args).run P w=.ok (.enter f args) w):z6 P f mk hs items:=by
 refine IA (fun r0 hr0 hy=>?_) he;obtain⟨hG,h1,L,h2,h3⟩:=h ⟨r0,hr0⟩ hy;refine⟨fun l o=>if l=mk (.os 0)/\o=.ab (r0 1)::hs then some { α:=Bool,pre:=True,post:=fun _=>True,res:=fun b=>.ret (.tup []) (.ab (r0 (if b then items.length+1 else 0))::jR n)}else none,?_,_,if_pos ⟨rfl,rfl⟩,trivial,fun b _=>⟨_,_,_,rfl,by cases b <;>simp⟩⟩;refine tF hm hts hG hf hb hname hc fun l o con hC _=>?_;split at hC
 rotate_left
 ·cases hC
 rename_i hlo;obtain⟨rfl,rfl⟩:=hlo;cases hC;refine⟨h1,L,_,h2,fun e st hq=>?_,h3⟩;have key:∀ st:St,(fm ⟨[],.ab (r0 0)::jR n⟩ (n+1) ⟨[],st.h⟩\/fm ⟨[],.ab (r0 (items.length+1))::jR n⟩ (n+1) ⟨[],st.h⟩)->pj (Ob.ab (r0 1)::hs).length { α:=Bool,pre:=True,post:=fun _=>True,res:=fun b=>.ret (.tup []) (.ab (r0 (if b then items.length+1 else 0))::jR n)} (jh (ir ts st fn.results.toList)) st.h:=fun st q=>by
  rw[hr];show ∃ r s' h' js,_;rcases q with⟨js,q1,q2⟩ | ⟨js,q1,q2⟩
  ·exact⟨false,_,_,js,trivial,rfl,by rw[List.length_cons,hn];exact q1,by rw[List.length_cons,hn];exact yx q2⟩
  ·exact⟨true,_,_,js,trivial,rfl,by rw[List.length_cons,hn];exact q1,by rw[List.length_cons,hn];exact yx q2⟩
 cases e with
 |normal=>exact key st hq
 |ret=>exact key st hq
 |exit j=>exact hq.elim
 |pan x=>exact hq.elim
section
variable {ρ σ τ:Type}
theorem qR {step:τ->σ->ρ⊕σ}:∀ {a b:List τ} {s s':σ},fg step a s=.inr s'->fg step (a++b) s=fg step b s'
 | [],_,_,_,h=>by simp only[fg,Sum.inr.injEq]at h;subst h;rfl
 |x::a,b,s,s',h=>by
  simp only[List.cons_append,fg]at h |-;cases hs:step x s with
  |inl y=>rw[hs]at h;cases h
  |inr s1=>rw[hs]at h;simp only at h |-;exact qR h
theorem yy {step:τ->σ->ρ⊕σ}{p:τ->σ->Prop}:∀ {a b:List τ} {s s':σ},fg step a s=.inr s'->okL step p (a++b) s->okL step p b s'
 | [],_,_,_,h,hk=>by simp only[fg,Sum.inr.injEq]at h;subst h;exact hk
 |x::a,b,s,s',h,hk=>by
  simp only[List.cons_append,fg]at h hk;cases hs:step x s with
  |inl y=>rw[hs]at h;cases h
  |inr s1=>rw[hs]at h;exact yy h (hk.2 s1 hs)
def LCP (m:Nat)(ns:List NLoc)(js:List Nat)(D:List Nat->Option Nat->σ->St)(step:τ->σ->ρ⊕σ)(p:τ->σ->Prop)(l:List τ)(s0:σ)(exE:ρ->Ex)(outE:ρ->St)(outN:σ->St)(st:St):LCon where
 α:=ρ⊕σ
 pre:=mC m ns js st (D (List.range l.length) none s0)/\∀ L,L.Perm l->okL step p L s0
 post:=fun r=>∃ L,L.Perm l/\fg step L s0=r
 ex:=fun| .inl x=>exE x| .inr _=>.normal
 out:=fun| .inl x=>outE x| .inr s=>outN s
variable {m:Nat}{ns:List NLoc}{js:List Nat}{step:τ->σ->ρ⊕σ}{p:τ->σ->Prop}{l:List τ}{s0:σ}{exE:ρ->Ex}{outE:ρ->St}{outN:σ->St}{st:St}{Q:Ex->St->Prop}{D:List Nat->Option Nat->σ->St}
@[go_sem] theorem MM:kO Q (some (LCP m ns js D step p l s0 exE outE outN st))=((mC m ns js st (D (List.range l.length) none s0)/\∀ L,L.Perm l->okL step p L s0)/\∀ L,L.Perm l->(∀ x,fg step L s0=.inl x->Q (exE x) (outE x))/\∀ s,fg step L s0=.inr s->Q .normal (outN s)):=by
 apply propext;constructor
 ·rintro⟨h1,h2⟩;exact⟨h1,fun L hL=>⟨fun x hx=>h2 (.inl x) ⟨L,hL,hx⟩,fun s hs=>h2 (.inr s) ⟨L,hL,hs⟩⟩⟩
 ·rintro⟨h1,h2⟩;refine⟨h1,fun r ⟨L,hL,hr⟩ =>?_⟩;cases r with
  |inl x=>exact(h2 L hL).1 x hr
  |inr s=>exact(h2 L hL).2 s hr
variable {P:Program}{ts:Tis}{G:Cons}{ro:Option Nat}{N id:Nat}{c:Code}{C:St->Option LCon}
theorem EB (d:τ)(it:Nat)(hm:P.follows .mixedOrders=true)(hts:ts.ok P)(hG:ConsOk P G)(hc:ca N c=true)(hC:∀ st,C st=some (LCP m ns js D step p l s0 exE outE outN st))
  (h:∀ left cur s,(∀ j,j∈left->j<l.length/\p (l.getD j d) s)->∃ L,ap P ro N L c/\exec ts G L c (D left cur s) (cM step l d exE outE outN D m id it left s)):gT P ro N id (.loop c) C:=by
 refine pN hm hts hG hc fun st lc hC' hp=>?_;rw[hC st]at hC';cases hC';obtain⟨⟨hlen,hok,hle,hsub⟩,hO⟩:=hp;subst hlen;have hfix:∀ q:List Nat,q.Perm (List.range l.length)->(q.map fun j=>l.getD j d).Perm l:=fun q hq=>by
  have:=hq.map (fun j=>l.getD j d)
  rwa[tL]at this
 refine⟨List Nat×Option Nat×σ,fun x=>D x.1 x.2.1 x.2.2,fun x=>∃ q:List Nat,(q++x.1).Perm (List.range l.length)/\fg step (q.map fun j=>l.getD j d) s0=.inr x.2.2,fun x=>x.1.length,(List.range l.length,none,s0),mkN ns st,js,⟨[],.refl _,rfl⟩,oY ns st st (.refl _) hok,hle,hsub,?_⟩;rintro⟨left,cur,s⟩ ⟨q,hq,hrun⟩;simp only at hq hrun;have hmem:∀ j,j∈left->(q++j::left.erase j).Perm (List.range l.length):=fun j hj=>((List.perm_cons_erase hj).symm.append_left q).trans hq;have hp0:∀ j,j∈left->j<l.length/\p (l.getD j d) s:=fun j hj=>by
  refine⟨List.mem_range.1 (hq.mem_iff.1 (List.mem_append_right _ hj)),?_⟩;have:=hO _ (hfix _ (hmem j hj));rw[List.map_append]at this;exact(yy hrun this).1
 obtain⟨L,hl,hex⟩:=h left cur s hp0;refine⟨L,_,hl,?_,hex⟩;have hfin:∀ e st' o,exC step l d exE outE st.h.length left s e st' o->∃ r js,(LCP st.h.length ns js D step p l s0 exE outE outN st).post r/\(LCP st.h.length ns js D step p l s0 exE outE outN st).ex r=e/\st.h.length<=((LCP st.h.length ns js D step p l s0 exE outE outN st).out r).h.length/\Sub js st.h.length st' ((LCP st.h.length ns js D step p l s0 exE outE outN st).out r):=by
  intro e st' o z;cases o with
  |none=>exact z.elim
  |some j=>
   obtain⟨hj,z⟩:=z;cases hs:step (l.getD j d) s with
   |inr s'=>rw[hs]at z;exact z.elim
   |inl x=>
    rw[hs]at z;obtain⟨q2,js2,q3,q4⟩:=z;refine⟨.inl x,js2,⟨_,hfix _ (hmem j hj),?_⟩,q2,q3,q4⟩;rw[List.map_append,qR hrun];simp only[List.map_cons,fg,hs]
 intro e st' hz;cases e with
 |normal=>
  change nxC step l d D st.h.length left s st' (oX (ae st'.h it))at hz;cases ho:oX (ae st'.h it)with
  |none=>rw[ho]at hz;exact hz.elim
  |some j=>
   rw[ho]at hz;obtain⟨hj,hz⟩:=hz;cases hs:step (l.getD j d) s with
   |inl x=>rw[hs]at hz;exact hz.elim
   |inr s'=>
    rw[hs]at hz;obtain⟨js2,q3,q4⟩:=hz;refine⟨(left.erase j,some j,s'),js2,⟨q++[j],?_,?_⟩,?_,q3,q4⟩
    ·rw[List.append_assoc];exact hmem j hj
    ·rw[List.map_append,qR hrun];simp only[List.map_cons,List.map_nil,fg,hs]
    ·have:=List.length_pos_of_mem hj;simp only[List.length_erase_of_mem hj];omega
 |exit j=>
  have hz':(bif Nat.beq j id then(left=[]->fm (outN s) st.h.length st')/\(left≠[]->exC step l d exE outE st.h.length left s .normal st' (oX (ae st'.h it)))else exC step l d exE outE st.h.length left s (.exit j) st' (oX (ae st'.h it))):=hz;show bif Nat.beq j id then _ else _;cases hb:Nat.beq j id with
  |true=>
   rw[hb]at hz';simp only[cond_true]at hz' |-;by_cases hlt:left=[]
   ·obtain⟨js2,q3,q4⟩:=hz'.1 hlt;refine⟨.inr s,js2,⟨_,hfix q (by rw[hlt,List.append_nil]at hq;exact hq),hrun⟩,rfl,q3,q4⟩
   ·exact hfin _ _ _ (hz'.2 hlt)
  |false=>
   rw[hb]at hz';exact hfin _ _ _ hz'
 |ret=>exact hfin _ _ _ hz
 |pan x=>exact hfin _ _ _ hz
end
theorem fkY {st2 st:St}{n0:Nat}{js:List Nat}(_:JL js)(h1:n0<=st2.h.length:=by(first|(show _<=_;decide) |(simp only[*,go_sem,Nat.reduceBEq,Nat.reduceLeDiff,Nat.reduceAdd,Nat.reduceSub,Nat.reduceMul,Int.reduceLE,Int.reduceLT,Int.reduceToNat,Int.reduceNeg,reduceCtorEq];done) |(simp only[*,go_sem,Nat.reduceBEq,Nat.reduceLeDiff,Nat.reduceAdd,Nat.reduceSub,Nat.reduceMul,Int.reduceLE,Int.reduceLT,Int.reduceToNat,Int.reduceNeg,reduceCtorEq];(repeat' (first|with_reducible refine And.intro ?_ ?_|((with_reducible show _≠_);first|assumption|omega|(simp_all [d7,eJ];done) |grind) |with_reducible intro _)) <;>(first|rfl|decide|assumption|omega|(simp_all [d7,eJ];done) |fail))))(h2:Sub js n0 st st2:=by(first|(show _<=_;decide) |(simp only[*,go_sem,Nat.reduceBEq,Nat.reduceLeDiff,Nat.reduceAdd,Nat.reduceSub,Nat.reduceMul,Int.reduceLE,Int.reduceLT,Int.reduceToNat,Int.reduceNeg,reduceCtorEq];done) |(simp only[*,go_sem,Nat.reduceBEq,Nat.reduceLeDiff,Nat.reduceAdd,Nat.reduceSub,Nat.reduceMul,Int.reduceLE,Int.reduceLT,Int.reduceToNat,Int.reduceNeg,reduceCtorEq];(repeat' (first|with_reducible refine And.intro ?_ ?_|((with_reducible show _≠_);first|assumption|omega|(simp_all [d7,eJ];done) |grind) |with_reducible intro _)) <;>(first|rfl|decide|assumption|omega|(simp_all [d7,eJ];done) |fail)))):fm st2 n0 st:=wR js h1 h2
theorem Kt {α:Type 1}{G:List SV->α->Prop}{X:SV}{k:List SV->Option α}(h:∀ l c,k l=some c->G (X::l) c):∀ l c,pQ X k l=some c->G l c:=fun l c hc=>by
 obtain⟨r,rfl,h1⟩:=Kl hc;exact h r c h1
end Go.Sx
end
section
namespace Go.Sx
open Go.Proofs
open IntKind (i64 u64)
def ju (n:Int)(d:Int):Int:=(i64.wrap (Int.tdiv (i64.wrap (n - (Int.tmod (i64.wrap ((Int.tmod n d)+d)) d))) d))
def ku (n:Int)(d:Int):Prop:=(d≠0/\(d≠0/\d≠0))
@[go_sem] def pW:List SV->Option Con:=(pI fun n=>(pI fun d=>(pE (.det (ku n d) (.v (.int .i64 (ju n d)))))))
theorem uv:FnOk Tryz.prog 61 pW:=by
 have hG:ConsOk Tryz.prog (mkG [] []):=aV cg0 cg0;refine cj [.o] mixed aC hG (fn:=Tryz.f61) (c:=ag Tryz.f61) kr kr kr kr (d_ fun n=>(d_ fun d=>(bw (fun hp=>?_))));dsimp only[bb]at hp;unfold ku at hp;refine⟨nbl rfl,L0,ak _,?_⟩
 ·unfold ag Tryz.f61;try unfold ju
  exact zq1
def ef (a:Ratio)(n:Int):Int×Int×Int:=(bif((bp a) !=0)then(0,0,(bp a))else(bif((decide (n< (-1073741824))) ||(decide (n > 1073741824)))then(0,0,1)else((ju (i64.wrap (a.n*n)) a.d),(i64.wrap (0 - (ju (i64.wrap ((i64.wrap (0 - a.n))*n)) a.d))),0)))
def oB (a:Ratio)(n:Int):Prop:=(((bp a) !=0)=false->(((decide (n< (-1073741824))) ||(decide (n > 1073741824)))=false->((ku (i64.wrap (a.n*n)) a.d)/\(ku (i64.wrap ((i64.wrap (0 - a.n))*n)) a.d))))
theorem uw {a:Ratio}(h:(bp a !=0)=false):1<=a.d:=by
 unfold bp at h;by_cases hd:a.d<1
 ·simp[hd]at h
 ·omega
theorem tS (a:Ratio)(n:Int):oB a n:=fun h _=>by
 have:=uw h;exact⟨⟨by omega,by omega,by omega⟩,⟨by omega,by omega,by omega⟩⟩
@[go_sem] def oC:List SV->Option Con:=(pD .ratio fun a=>(pI fun n=>(pE (.det True (.tup [.v (.int .i64 ((ef a n).1)),.v (.int .i64 ((ef a n).2.1)),.v (.int .i64 ((ef a n).2.2))])))))
theorem tT:FnOk Tryz.prog 32 oC:=by
 have hG:ConsOk Tryz.prog (mkG [(60,jA),(61,pW)] []):=aV (cgc kV (cgc uv cg0)) cg0;refine cj [.o,.o,.o] mixed aC hG (fn:=Tryz.f32) (c:=ag Tryz.f32) kr kr kr kr (cq fun a=>(d_ fun n=>(bw (fun hp=>?_))));dsimp only[bb]at hp;have hp:=tS a n;unfold oB at hp;refine⟨nbl rfl,L0,ak _,?_⟩
 ·unfold ag Tryz.f32;try unfold ef
  exact zq1
def iw (n:Int)(d:Int):Ratio×Int:=letI q3:=({ n:=0,d:=0}:Ratio);letI q6:=bS n;letI q7:=bS d;letI q0:=((yw (Int.toNat q6) (Int.toNat q7):Nat):Int);letI q1:=u64.wrap (Int.tdiv q6 q0);letI q2:=u64.wrap (Int.tdiv q7 q0);letI q4:=i64.wrap q1;letI q5:=i64.wrap q2;(bif(d==0)then(q3,120)else(bif(decide ((if q1<q2 then q2 else q1) > 1073741824))then(q3,2)else(bif((decide (n<0)) !=(decide (d<0)))then(({ n:=(i64.wrap (0 - q4)),d:=q5}:Ratio),0)else(({ n:=q4,d:=q5}:Ratio),0))))
def kv (n:Int)(d:Int):Prop:=letI q1:=bS n;letI q2:=bS d;letI q0:=((yw (Int.toNat q1) (Int.toNat q2):Nat):Int);((d==0)=false->((0<=q1/\0<=q2)/\(q0≠0/\q0≠0)))
@[go_sem] def pY:List SV->Option Con:=(pI fun n=>(pI fun d=>(pE (.det (kv n d) (.tup [.agg (cellsOf .ratio ((iw n d).1)),.v (.int .i64 ((iw n d).2))])))))
theorem ux:FnOk Tryz.prog 143 pY:=by
 have hG:ConsOk Tryz.prog (mkG [(88,C83),(89,iR)] []):=aV (cgc Er (cgc kU cg0)) cg0;refine cj [.st .ratio,.o] mixed aC hG (fn:=Tryz.f143) (c:=ag Tryz.f143) kr kr kr kr (d_ fun n=>(d_ fun d=>(bw (fun hp=>?_))));dsimp only[bb]at hp;unfold kv at hp;refine⟨nbl rfl,L0,ak _,?_⟩
 ·unfold ag Tryz.f143;try unfold iw
  exact zq4
def dR (a:Ratio)(b:Ratio):Int×Int:=((i64.wrap ((i64.wrap (a.n*b.d))+(i64.wrap (b.n*a.d)))),(i64.wrap (a.d*b.d)))
@[go_sem] def oD:List SV->Option Con:=(pD .ratio fun a=>(pD .ratio fun b=>(pE (.det True (.tup [.v (.int .i64 ((dR a b).1)),.v (.int .i64 ((dR a b).2))])))))
theorem tU:FnOk Tryz.prog 118 oD:=by
 have hG:ConsOk Tryz.prog (mkG [] []):=aV cg0 cg0;refine cj [.o,.o] mixed aC hG (fn:=Tryz.f118) (c:=ag Tryz.f118) kr kr kr kr (cq fun a=>(cq fun b=>(bw (fun hp=>?_))));dsimp only[bb]at hp;refine⟨nbl rfl,L0,ak _,?_⟩
 ·unfold ag Tryz.f118;try unfold dR
  exact zq1
def dL (a:Ratio)(b:Ratio):Ratio×Int:=(bif(((bp a) !=0) ||((bp b) !=0))then(({ n:=0,d:=0}:Ratio),120)else(((iw ((dR a b).1) ((dR a b).2)).1),(iw ((dR a b).1) ((dR a b).2)).2))
def gq (a:Ratio)(b:Ratio):Prop:=((((bp a) !=0) ||((bp b) !=0))=false->(kv ((dR a b).1) ((dR a b).2)))
@[go_sem] noncomputable def jS:List SV->Option Con:=(pQ (.agg [.fn 118 [] []]) (pD .ratio fun a=>(pD .ratio fun b=>(pE (.det (gq a b) (.tup [.agg (cellsOf .ratio ((dL a b).1)),.v (.int .i64 ((dL a b).2))]))))))
theorem mU:FnOk Tryz.prog 119 jS:=by
 have hG:ConsOk Tryz.prog (mkG [(60,jA),(118,oD),(143,pY)] []):=aV (cgc kV (cgc tU (cgc ux cg0))) cg0;refine cj [.st .ratio,.o] mixed aC hG (fn:=Tryz.f119) (c:=ag Tryz.f119) kr kr kr kr (Kt (cq fun a=>(cq fun b=>(bw (fun hp=>?_)))));dsimp only[bb]at hp;unfold gq at hp;refine⟨nbl rfl,L0,ak _,?_⟩
 ·unfold ag Tryz.f119;try unfold dL
  exact zq1
def fW (a:Ratio)(b:Ratio):Ratio×Int:=(((dL a b).1),(dL a b).2)
def lv (a:Ratio)(b:Ratio):Prop:=(gq a b)
@[go_sem] def rD:List SV->Option Con:=(pD .ratio fun a=>(pD .ratio fun b=>(pE (.det (lv a b) (.tup [.agg (cellsOf .ratio ((fW a b).1)),.v (.int .i64 ((fW a b).2))])))))
theorem wV:FnOk Tryz.prog 91 rD:=by
 have hG:ConsOk Tryz.prog (mkG [(119,jS)] []):=aV (cgc mU cg0) cg0;refine cj [.st .ratio,.o] mixed aC hG (fn:=Tryz.f91) (c:=ag Tryz.f91) kr kr kr kr (cq fun a=>(cq fun b=>(bw (fun hp=>?_))));dsimp only[bb]at hp;unfold lv at hp;refine⟨nbl rfl,L0,ak _,?_⟩
 ·unfold ag Tryz.f91;try unfold fW
  exact zq1
@[go_sem] def oE (bT:List Int)(k_0:Nat)(s_0:Unit):Int⊕Unit:=(bif((bT.getD k_0 0) !=0)then .inl (bT.getD k_0 0)else .inr ())
def fO (bT:List Int):Int:=(match aq (oE bT) bT.length 0 ()with| .inl x_0_0=>x_0_0| .inr s_0=>0)
@[go_sem] def pZ:List SV->Option Con:=(pR .int fun bT=>(pE (.det True (.v (.int .i64 (fO bT))))))
theorem uy:FnOk Tryz.prog 52 pZ:=by
 have hG:ConsOk Tryz.prog (mkG [] []):=aV cg0 cg0;refine cj [.o] mixed aC hG (fn:=Tryz.f52) (c:=ag Tryz.f52) kr kr kr kr (gn fun bT=>(bw (fun hp=>?_)));dsimp only[bb]at hp;refine⟨nbl rfl,(fun id st=>bif Nat.beq id 0 then some (LCR (ρ:=Int) (σ:=Unit) 0 [] [] (fun k_0 s_0=>⟨[(3,.v (.int .i64 0)),(6,.rs .int bT),(7,.v (.int .i64 (bT.length:Int))),(8,.v (.int .i64 (k_0:Int)))],[]⟩) (oE bT) pT bT.length () (bT.length<=bR) (fun _=>.ret) (fun x_0_0=>⟨[(2,.v (.int .i64 x_0_0))],[]⟩) st)else none),?_,?_⟩
 ·unfold ag Tryz.f52;simp only[ap,true_and,and_true]
  ·refine ew mixed aC hG kr (fun _=>rfl) (bT.length:Int) rfl mT (fun hb0 k_0 s_0 hlt0 _ hw hc=>⟨L0,ak _,?_⟩) (fun hb0 s_0 hc=>?_)
   ·exact dH (jl [])
   ·exact dI (jl [])
 ·unfold ag Tryz.f52;try unfold fO
  exact zq1
def bI (x:Holding)(y:Holding):Int:=(fO ([(cU x.right y.right),(cU x.farm y.farm)]))
@[go_sem] def mP:List SV->Option Con:=(pD .holding fun x=>(pD .holding fun y=>(pE (.det True (.v (.int .i64 (bI x y)))))))
theorem qS:FnOk Tryz.prog 51 mP:=by
 have hG:ConsOk Tryz.prog (mkG [(38,eT),(52,fun l=>pZ (dJ [.sl .int] l))] []):=aV (cgc fM (cgc (uy.norm [.sl .int]) cg0)) cg0;refine cj [.o] mixed aC hG (fn:=Tryz.f51) (c:=ag Tryz.f51) kr kr kr kr (cq fun x=>(cq fun y=>(bw (fun hp=>?_))));dsimp only[bb]at hp;refine⟨nbl rfl,L0,ak _,?_⟩
 ·unfold ag Tryz.f51;try unfold bI
  exact zq1
theorem lw (x y:Int):cU x y=if x<y then -1 else if x > y then 1 else 0:=by
 unfold cU fV;simp[Bool.cond_eq_ite]
theorem Ae (x:Int)(l:List Int):fO (x::l)=if x=0 then fO l else x:=by
 have key:∀ l:List Int,fO l=match fg (ρ:=Int) (fun(x:Int) (_:Unit) =>bif(x !=0)then .inl x else .inr ()) l ()with| .inl y=>y| .inr _=>0:=fun l=>by
  unfold fO;have:=wO (ρ:=Int) (fun(x:Int) (_:Unit) =>bif(x !=0)then .inl x else .inr ()) 0 l ();rw[<-this];rfl
 rw[key,key];simp only[fg];by_cases h:x=0
 ·subst h;rfl
 ·have:(x !=0)=true:=by simpa using h
  rw[if_neg h,this];rfl
theorem Cv:fO []=0:=rfl
def qT:List (Int×Int)->Prop
 | [] =>False
 |(a,b)::r=>a<b\/a=b/\qT r
theorem vB:∀ l:List (Int×Int),(fO (l.map fun p=>cU p.1 p.2) <0↔qT l)
 | [] =>by simp[Cv,qT]
 |(a,b)::r=>by
  have hc:=lw a b;simp only[List.map_cons,Ae,hc,qT];rcases Int.lt_trichotomy a b with h|h|h
  ·simp[h]
  ·subst h;simp only[Int.lt_irrefl,if_false,if_true,true_and,false_or,gt_iff_lt];exact vB r
  ·have h1:¬a<b:=by omega
   have h2:a≠b:=by omega
   simp[h1,h2,h]
def hlt (a b:Holding):Prop:=qT [(a.right,b.right),(a.farm,b.farm)]
theorem tV (a b:Holding):bI a b<0↔hlt a b:=vB [(a.right,b.right),(a.farm,b.farm)]
open Go.Shelf Go.Sort in
theorem Ku {α:Type}{f:α->α->Int}{r:α->α->Prop}(e:∀ x y,f x y<0↔r x y)(h1:∀ x,¬r x x)(h2:∀ x y z,r x y->r y z->r x z)(h3:∀ x y z,¬r x y->¬r y z->¬r x z):SWO (ltOf f):=by
 have e1:∀ x y,ltOf f x y=true↔r x y:=fun x y=>by unfold ltOf;rw[decide_eq_true_eq,e]
 have e2:∀ x y,ltOf f x y=false↔¬r x y:=fun x y=>by rw[<-e1];simp
 exact⟨fun x=>(e2 x x).2 (h1 x),fun x y z a b=>(e1 x z).2 (h2 x y z ((e1 x y).1 a) ((e1 y z).1 b)),fun x y z a b=>(e2 x z).2 (h3 x y z ((e2 x y).1 a) ((e2 y z).1 b))⟩
open Go.Shelf Go.Sort in
theorem rE:SWO (ltOf bI):=Ku tV (fun x=>by simp only[hlt,qT,and_false,or_false];omega) (fun x y z h1 h2=>by simp only[hlt,qT,and_false,or_false]at *;omega) (fun x y z h1 h2=>by simp only[hlt,qT,and_false,or_false]at *;omega)
end Go.Sx
end
