/- Part of the proof that the law TimetableServedSpec returns true and leaves its arguments as they were, for all arguments of bulk at most 1048576 (the Upto form). -/
import Derived.Test.YtagjakphhkfofaaGreatC706
import Derived.Test.YtagjakphhkfofaaGreatProg
set_option linter.all false
set_option maxHeartbeats 4000000
section
namespace Go.Sx
open Go.Proofs
def ti3:TI:=⟨1,8,false,[(.v (.int .i64 0))],[],0,0,false,false,(some .int),(some .i64),false,[],none,none,1⟩
def ti4:TI:=⟨1,1,false,[(.v (.bool false))],[],0,0,false,false,(some .bool),none,false,[],none,none,3⟩
def ti9:TI:=⟨1,16,false,[(.v (.string (ByteArray.mk #[])))],[],0,0,false,false,(some .str),none,false,[],none,none,2⟩
def M2:TI:=⟨2,16,true,[(.v (.int .i64 0)),(.v (.int .i64 0))],[(0,(1,false)),(1,(1,false))],0,0,false,false,(some .tank),none,false,[1,1],none,none,0⟩
def M3:TI:=⟨1,24,false,[(.v (.slice none 0 0))],[],93,0,true,false,none,none,false,[],none,none,0⟩
def M4:TI:=⟨1,24,false,[(.v (.slice none 0 0))],[],95,0,true,false,none,none,false,[],none,none,0⟩
def M5:TI:=⟨1,24,false,[(.v (.slice none 0 0))],[],174,0,true,false,none,none,false,[],none,none,0⟩
def M6:TI:=⟨1,24,false,[(.v (.slice none 0 0))],[],84,0,true,false,none,none,false,[],none,none,0⟩
def M7:TI:=⟨1,24,false,[(.v (.slice none 0 0))],[],178,0,true,false,none,none,false,[],none,none,0⟩
def M8:TI:=⟨10,184,true,[(.v (.string (ByteArray.mk #[]))),(.v (.int .i64 0)),(.v (.int .i64 0)),(.v (.int .i64 0)),(.v (.slice none 0 0)),(.v (.slice none 0 0)),(.v (.slice none 0 0)),(.v (.slice none 0 0)),(.v (.slice none 0 0)),(.v (.slice none 0 0))],[(0,(1,false)),(1,(1,false)),(2,(2,true)),(4,(1,false)),(5,(1,false)),(6,(1,false)),(7,(1,false)),(8,(1,false)),(9,(1,false))],0,0,false,false,(some .district),none,false,[],none,none,0⟩
def M9:TI:=⟨1,24,false,[(.v (.slice none 0 0))],[],49,0,true,false,(some .claims),none,false,[],none,none,0⟩
def M_:TI:=⟨1,24,false,[(.v (.slice none 0 0))],[],54,0,true,false,none,none,false,[],none,none,0⟩
def Na:TI:=⟨5,40,true,[(.v (.int .i64 0)),(.v (.int .i64 0)),(.v (.int .i64 0)),(.v (.int .i64 0)),(.v (.int .i64 0))],[(0,(1,false)),(1,(1,false)),(2,(1,false)),(3,(1,false)),(4,(1,false))],0,0,false,false,(some .fault),none,false,[1,1,1,1,1],none,none,0⟩
def Nb:TI:=⟨5,40,true,[(.v (.int .i64 0)),(.v (.int .i64 0)),(.v (.int .i64 0)),(.v (.int .i64 0)),(.v (.int .i64 0))],[(0,(1,false)),(1,(1,false)),(2,(1,false)),(3,(1,false)),(4,(1,false))],0,0,false,false,(some .claim),none,false,[1,1,1,1,1],none,none,0⟩
def Nc:TI:=⟨4,32,true,[(.v (.int .i64 0)),(.v (.int .i64 0)),(.v (.int .i64 0)),(.v (.bool false))],[(0,(1,false)),(1,(1,false)),(2,(1,false)),(3,(1,false))],0,0,false,false,(some .order),none,false,[1,1,1,3],none,none,0⟩
def Nd:TI:=⟨10,88,true,[(.v (.string (ByteArray.mk #[]))),(.v (.int .i64 0)),(.v (.int .i64 0)),(.v (.int .i64 0)),(.v (.int .i64 0)),(.v (.int .i64 0)),(.v (.int .i64 0)),(.v (.int .i64 0)),(.v (.int .i64 0)),(.v (.int .i64 0))],[(0,(1,false)),(1,(1,false)),(2,(1,false)),(3,(1,false)),(4,(1,false)),(5,(1,false)),(6,(1,false)),(7,(1,false)),(8,(1,false)),(9,(1,false))],0,0,false,false,(some .right),none,false,[2,1,1,1,1,1,1,1,1,1],none,none,0⟩
def Nf:TI:=⟨2,16,true,[(.v (.int .i64 0)),(.v (.int .i64 0))],[(0,(1,false)),(1,(1,false))],0,0,false,false,(some .range),none,false,[1,1],none,none,0⟩
def Ng:TI:=⟨2,16,true,[(.v (.int .i64 0)),(.v (.int .i64 0))],[(0,(1,false)),(1,(1,false))],0,0,false,false,(some .ratio),none,false,[1,1],none,none,0⟩
def Nh:TI:=⟨4,32,true,[(.v (.int .i64 0)),(.v (.int .i64 0)),(.v (.int .i64 0)),(.v (.int .i64 0))],[],90,2,false,true,(some .ratio2),none,false,[],none,none,0⟩
def Ni:TI:=⟨12,104,true,[(.v (.string (ByteArray.mk #[]))),(.v (.int .i64 0)),(.v (.int .i64 0)),(.v (.int .i64 0)),(.v (.int .i64 0)),(.v (.int .i64 0)),(.v (.int .i64 0)),(.v (.int .i64 0)),(.v (.int .i64 0)),(.v (.int .i64 0)),(.v (.int .i64 0)),(.v (.int .i64 0))],[(0,(1,false)),(1,(1,false)),(2,(1,false)),(3,(1,false)),(4,(1,false)),(5,(1,false)),(6,(2,true)),(8,(4,true))],0,0,false,false,(some .reach),none,false,[],none,none,0⟩
def Nj:TI:=⟨4,40,true,[(.v (.string (ByteArray.mk #[]))),(.v (.int .i64 0)),(.v (.int .i64 0)),(.v (.int .i64 0))],[(0,(1,false)),(1,(1,false)),(2,(1,false)),(3,(1,false))],0,0,false,false,(some .farm),none,false,[2,1,1,1],none,none,0⟩
def Nk:TI:=⟨1,24,false,[(.v (.slice none 0 0))],[],40,0,true,false,none,none,false,[],none,none,0⟩
def za:TI:=⟨1,8,false,[(.v .nilFunc)],[],0,0,false,false,none,none,false,[],none,none,0⟩
def Ha:TI:=⟨1,24,false,[(.v (.slice none 0 0))],[],158,0,true,false,none,none,false,[],none,none,0⟩
def Hb:TI:=⟨1,8,false,[(.v (.map none))],[],3,0,false,false,none,none,false,[],(some .int2),(some .int),0⟩
def Hc:TI:=⟨2,16,true,[(.v (.int .i64 0)),(.v (.int .i64 0))],[],3,2,false,true,(some .int2),none,false,[1,1],none,none,0⟩
def He:TI:=⟨1,8,false,[(.v (.map none))],[],3,0,false,false,none,none,false,[],(some .timetableSlot),(some .int),0⟩
def Hf:TI:=⟨1,8,false,[(.v (.map none))],[],4,0,false,false,none,none,false,[],(some .timetableSlot),(some .bool),0⟩
def Hg:TI:=⟨2,16,true,[(.v (.int .i64 0)),(.v (.int .i64 0))],[(0,(1,false)),(1,(1,false))],0,0,false,false,(some .timetableSlot),none,false,[1,1],none,none,0⟩
def Hh:TI:=⟨1,24,false,[(.v (.slice none 0 0))],[],3,0,true,false,(some .ints),none,false,[],none,none,0⟩
def Hi:TI:=⟨1,8,false,[(.v (.int .u64 0))],[],0,0,false,false,none,(some .u64),false,[],none,none,1⟩
def Hj:TI:=⟨2,24,true,[(.v (.string (ByteArray.mk #[]))),(.v (.int .i64 0))],[(0,(1,false)),(1,(1,false))],0,0,false,false,(some .crop),none,false,[2,1],none,none,0⟩
def Hk:TI:=⟨4,40,true,[(.v (.string (ByteArray.mk #[]))),(.v (.int .i64 0)),(.v (.int .i64 0)),(.v (.int .i64 0))],[(0,(1,false)),(1,(1,false)),(2,(1,false)),(3,(1,false))],0,0,false,false,(some .duty),none,false,[2,1,1,1],none,none,0⟩
def Hl:TI:=⟨1,24,false,[(.v (.slice none 0 0))],[],127,0,true,false,none,none,false,[],none,none,0⟩
def ts:Tis:=fun t=>(bif Nat.ble t 88 then(bif Nat.ble t 28 then(bif Nat.ble t 23 then(bif Nat.ble t 4 then(bif Nat.ble t 3 then(bif Nat.beq t 3 then some ti3 else none)else(bif Nat.beq t 4 then some ti4 else none))else(bif Nat.ble t 9 then(bif Nat.beq t 9 then some ti9 else none)else(bif Nat.beq t 23 then some M2 else none)))else(bif Nat.ble t 25 then(bif Nat.ble t 24 then(bif Nat.beq t 24 then some M3 else none)else(bif Nat.beq t 25 then some M4 else none))else(bif Nat.ble t 26 then(bif Nat.beq t 26 then some M5 else none)else(bif Nat.ble t 27 then(bif Nat.beq t 27 then some M6 else none)else(bif Nat.beq t 28 then some M7 else none)))))else(bif Nat.ble t 36 then(bif Nat.ble t 32 then(bif Nat.ble t 31 then(bif Nat.beq t 31 then some M8 else none)else(bif Nat.beq t 32 then some M9 else none))else(bif Nat.ble t 35 then(bif Nat.beq t 35 then some M_ else none)else(bif Nat.beq t 36 then some ti3 else none)))else(bif Nat.ble t 49 then(bif Nat.ble t 40 then(bif Nat.beq t 40 then some Na else none)else(bif Nat.beq t 49 then some Nb else none))else(bif Nat.ble t 54 then(bif Nat.beq t 54 then some Nc else none)else(bif Nat.ble t 84 then(bif Nat.beq t 84 then some Nd else none)else(bif Nat.beq t 88 then some Nf else none))))))else(bif Nat.ble t 142 then(bif Nat.ble t 95 then(bif Nat.ble t 91 then(bif Nat.ble t 90 then(bif Nat.beq t 90 then some Ng else none)else(bif Nat.beq t 91 then some Nh else none))else(bif Nat.ble t 93 then(bif Nat.beq t 93 then some Ni else none)else(bif Nat.beq t 95 then some Nj else none)))else(bif Nat.ble t 127 then(bif Nat.ble t 99 then(bif Nat.beq t 99 then some Nk else none)else(bif Nat.beq t 127 then some za else none))else(bif Nat.ble t 131 then(bif Nat.beq t 131 then some Ha else none)else(bif Nat.ble t 141 then(bif Nat.beq t 141 then some Hb else none)else(bif Nat.beq t 142 then some Hc else none)))))else(bif Nat.ble t 166 then(bif Nat.ble t 151 then(bif Nat.ble t 150 then(bif Nat.beq t 150 then some He else none)else(bif Nat.beq t 151 then some Hf else none))else(bif Nat.ble t 153 then(bif Nat.beq t 153 then some Hg else none)else(bif Nat.ble t 158 then(bif Nat.beq t 158 then some Hh else none)else(bif Nat.beq t 166 then some Hi else none))))else(bif Nat.ble t 174 then(bif Nat.ble t 169 then(bif Nat.beq t 169 then some ti3 else none)else(bif Nat.beq t 174 then some Hj else none))else(bif Nat.ble t 178 then(bif Nat.beq t 178 then some Hk else none)else(bif Nat.ble t 179 then(bif Nat.beq t 179 then some Hl else none)else(bif Nat.beq t 190 then some za else none)))))))
theorem Qy:cT Tryz.prog 3=some ti3:=by kernel_rfl
theorem Qz:cT Tryz.prog 4=some ti4:=by kernel_rfl
theorem QA:cT Tryz.prog 9=some ti9:=by kernel_rfl
theorem Nl:cT Tryz.prog 23=some M2:=by kernel_rfl
theorem Nm:cT Tryz.prog 24=some M3:=by kernel_rfl
theorem Nn:cT Tryz.prog 25=some M4:=by kernel_rfl
theorem No:cT Tryz.prog 26=some M5:=by kernel_rfl
theorem Np:cT Tryz.prog 27=some M6:=by kernel_rfl
theorem Nq:cT Tryz.prog 28=some M7:=by kernel_rfl
theorem Nr:cT Tryz.prog 31=some M8:=by kernel_rfl
theorem Ns:cT Tryz.prog 32=some M9:=by kernel_rfl
theorem Nt:cT Tryz.prog 35=some M_:=by kernel_rfl
theorem Nu:cT Tryz.prog 36=some ti3:=by kernel_rfl
theorem Nv:cT Tryz.prog 40=some Na:=by kernel_rfl
theorem Nw:cT Tryz.prog 49=some Nb:=by kernel_rfl
theorem Nx:cT Tryz.prog 54=some Nc:=by kernel_rfl
theorem Ny:cT Tryz.prog 84=some Nd:=by kernel_rfl
theorem Nz:cT Tryz.prog 88=some Nf:=by kernel_rfl
theorem NA:cT Tryz.prog 90=some Ng:=by kernel_rfl
theorem NB:cT Tryz.prog 91=some Nh:=by kernel_rfl
theorem NC:cT Tryz.prog 93=some Ni:=by kernel_rfl
theorem ND:cT Tryz.prog 95=some Nj:=by kernel_rfl
theorem NE:cT Tryz.prog 99=some Nk:=by kernel_rfl
theorem J5:cT Tryz.prog 127=some za:=by kernel_rfl
theorem J6:cT Tryz.prog 131=some Ha:=by kernel_rfl
theorem J7:cT Tryz.prog 141=some Hb:=by kernel_rfl
theorem J8:cT Tryz.prog 142=some Hc:=by kernel_rfl
theorem J9:cT Tryz.prog 150=some He:=by kernel_rfl
theorem J_:cT Tryz.prog 151=some Hf:=by kernel_rfl
theorem Ka:cT Tryz.prog 153=some Hg:=by kernel_rfl
theorem Kb:cT Tryz.prog 158=some Hh:=by kernel_rfl
theorem Kc:cT Tryz.prog 166=some Hi:=by kernel_rfl
theorem Ke:cT Tryz.prog 169=some ti3:=by kernel_rfl
theorem Kf:cT Tryz.prog 174=some Hj:=by kernel_rfl
theorem Kg:cT Tryz.prog 178=some Hk:=by kernel_rfl
theorem Kh:cT Tryz.prog 179=some Hl:=by kernel_rfl
theorem Ki:cT Tryz.prog 190=some za:=by kernel_rfl
theorem ax:Tis.ok ts Tryz.prog:=(Tis.ok_node (Tis.ok_node (Tis.ok_node (Tis.ok_node (Tis.ok_node (Tis.ok_leaf Qy) (Tis.ok_leaf Qz)) (Tis.ok_node (Tis.ok_leaf QA) (Tis.ok_leaf Nl))) (Tis.ok_node (Tis.ok_node (Tis.ok_leaf Nm) (Tis.ok_leaf Nn)) (Tis.ok_node (Tis.ok_leaf No) (Tis.ok_node (Tis.ok_leaf Np) (Tis.ok_leaf Nq))))) (Tis.ok_node (Tis.ok_node (Tis.ok_node (Tis.ok_leaf Nr) (Tis.ok_leaf Ns)) (Tis.ok_node (Tis.ok_leaf Nt) (Tis.ok_leaf Nu))) (Tis.ok_node (Tis.ok_node (Tis.ok_leaf Nv) (Tis.ok_leaf Nw)) (Tis.ok_node (Tis.ok_leaf Nx) (Tis.ok_node (Tis.ok_leaf Ny) (Tis.ok_leaf Nz)))))) (Tis.ok_node (Tis.ok_node (Tis.ok_node (Tis.ok_node (Tis.ok_leaf NA) (Tis.ok_leaf NB)) (Tis.ok_node (Tis.ok_leaf NC) (Tis.ok_leaf ND))) (Tis.ok_node (Tis.ok_node (Tis.ok_leaf NE) (Tis.ok_leaf J5)) (Tis.ok_node (Tis.ok_leaf J6) (Tis.ok_node (Tis.ok_leaf J7) (Tis.ok_leaf J8))))) (Tis.ok_node (Tis.ok_node (Tis.ok_node (Tis.ok_leaf J9) (Tis.ok_leaf J_)) (Tis.ok_node (Tis.ok_leaf Ka) (Tis.ok_node (Tis.ok_leaf Kb) (Tis.ok_leaf Kc)))) (Tis.ok_node (Tis.ok_node (Tis.ok_leaf Ke) (Tis.ok_leaf Kf)) (Tis.ok_node (Tis.ok_leaf Kg) (Tis.ok_node (Tis.ok_leaf Kh) (Tis.ok_leaf Ki)))))))
@[go_sem] theorem ts_3:ts 3=some ti3:=(rfl)
@[go_sem] theorem ts_4:ts 4=some ti4:=(rfl)
@[go_sem] theorem ts_9:ts 9=some ti9:=(rfl)
@[go_sem] theorem ts_23:ts 23=some M2:=(rfl)
@[go_sem] theorem ts_24:ts 24=some M3:=(rfl)
@[go_sem] theorem ts_25:ts 25=some M4:=(rfl)
@[go_sem] theorem ts_26:ts 26=some M5:=(rfl)
@[go_sem] theorem ts_27:ts 27=some M6:=(rfl)
@[go_sem] theorem ts_28:ts 28=some M7:=(rfl)
@[go_sem] theorem ts_31:ts 31=some M8:=(rfl)
@[go_sem] theorem ts_32:ts 32=some M9:=(rfl)
@[go_sem] theorem ts_35:ts 35=some M_:=(rfl)
@[go_sem] theorem ts_36:ts 36=some ti3:=(rfl)
@[go_sem] theorem ts_40:ts 40=some Na:=(rfl)
@[go_sem] theorem ts_49:ts 49=some Nb:=(rfl)
@[go_sem] theorem ts_54:ts 54=some Nc:=(rfl)
@[go_sem] theorem ts_84:ts 84=some Nd:=(rfl)
@[go_sem] theorem ts_88:ts 88=some Nf:=(rfl)
@[go_sem] theorem ts_90:ts 90=some Ng:=(rfl)
@[go_sem] theorem ts_91:ts 91=some Nh:=(rfl)
@[go_sem] theorem ts_93:ts 93=some Ni:=(rfl)
@[go_sem] theorem ts_95:ts 95=some Nj:=(rfl)
@[go_sem] theorem ts_99:ts 99=some Nk:=(rfl)
@[go_sem] theorem WT:ts 127=some za:=(rfl)
@[go_sem] theorem WU:ts 131=some Ha:=(rfl)
@[go_sem] theorem WV:ts 141=some Hb:=(rfl)
@[go_sem] theorem WW:ts 142=some Hc:=(rfl)
@[go_sem] theorem WX:ts 150=some He:=(rfl)
@[go_sem] theorem WY:ts 151=some Hf:=(rfl)
@[go_sem] theorem WZ:ts 153=some Hg:=(rfl)
@[go_sem] theorem W0:ts 158=some Hh:=(rfl)
@[go_sem] theorem W2:ts 166=some Hi:=(rfl)
@[go_sem] theorem W3:ts 169=some ti3:=(rfl)
@[go_sem] theorem W4:ts 174=some Hj:=(rfl)
@[go_sem] theorem W5:ts 178=some Hk:=(rfl)
@[go_sem] theorem W6:ts 179=some Hl:=(rfl)
@[go_sem] theorem W7:ts 190=some za:=(rfl)
attribute [go_sem] ti3 ti4 ti9 M2 M3 M4 M5 M6 M7 M8 M9 M_ Na Nb Nc Nd Nf Ng Nh Ni Nj Nk za Ha Hb Hc He Hf Hg Hh Hi Hj Hk Hl
end Go.Sx
end
section
namespace Go.Sx
open Go.Proofs
theorem mixed:Tryz.prog.follows .mixedOrders=true:=by kernel_rfl
end Go.Sx
end
section
namespace Go.Sx
open Go.Proofs
set_option maxRecDepth 100000
def gS:List SV→Option Con
 | [.v (.iface t (.int .i64 e))] =>bif Nat.beq t 169 then some (.det True (.i e))else none
 |_=>none
theorem wg:FnOk Tryz.prog 74 gS:=by
 have hG:ConsOk Tryz.prog (mkG [] []):=aC (by simp) (by simp)
 refine aI [.o] mixed ax hG (fn:=Tryz.f74) (c:=aa Tryz.f74) (by kernel_rfl) (by kernel_rfl) (by kernel_rfl) (by kernel_rfl) fun l con h hp=>?_
 unfold gS at h
 split at h
 ·rename_i t e
  cases ht:Nat.beq t 169 with
  |false=>rw[ht]at h;cases h
  |true=>
   rw[ht]at h
   cases h
   have ht':=Nat.eq_of_beq_eq_true ht
   subst ht'
   refine⟨Nat.le_of_ble_eq_true rfl,L0,by unfold aa Tryz.f74;simp only[ay,and_self],?_⟩
   unfold aa Tryz.f74
   simp only[go_sem,true_imp_iff,false_imp_iff,Nat.reduceBEq,Nat.reduceLeDiff,Nat.reduceAdd,Nat.reduceSub,Nat.reduceMul,true_and,and_true,implies_true,reduceCtorEq]
 ·cases h
def QB:Value→Option SV
 | .iface t (.int .i64 e) =>bif Nat.beq t 169 then some (.i e)else none
 |_=>none
theorem Kj:OU Tryz.prog 73 QB:=by
 obtain⟨fn,hfn,hbody,hn,hres⟩:∃ fn,Tryz.prog.funcs[73]? =some fn∧fn.body=some (aa Tryz.f73)∧fn.ntmps=7∧fn.results= #[]:=⟨Tryz.f73,by kernel_rfl,by kernel_rfl,by kernel_rfl,by kernel_rfl⟩
 have hG:ConsOk Tryz.prog (mkG [(74,gS)] []):=aC (by
  intro x hx
  simp only[List.mem_cons,List.not_mem_nil,or_false]at hx
  rcases hx with rfl
  exact wg) (by simp)
 refine⟨fun args w=>by kernel_rfl,fun p w=>?_,?_⟩
 ·refine callsDIn_of_wpSIn hfn hbody trivial fun c₀ cs hu=>?_
  unfold aa Tryz.f73
  refine wpSIn_seq (wpSIn_region ?_)
  simp[wpOpsSIn,go_sem,recoverD,hu,hn,Exit.thenS,Oper.about,Region.wanted]
  refine wpSIn_seq (wpSIn_region ?_)
  simp[wpOpsSIn,go_sem,recoverD,hu,Exit.thenS,Oper.about,Region.wanted]
  refine wpSIn_cond (t:=false) (by simp[Act.eval]) ?_
  simp only[Bool.false_eq_true,if_false]
  refine wpSIn_of_wpIn rfl (wpIn_skip ?_)
  cases c₀
  simp_all [bodyPostS,results]
 ·intro x s hx F own w h id hd b y hfw hp hob ho hpb
  unfold QB at hx
  split at hx
  ·rename_i t e
   cases ht:Nat.beq t 169 with
   |false=>rw[ht]at hx;cases hx
   |true=>
    rw[ht]at hx
    cases hx
    have ht':=Nat.eq_of_beq_eq_true ht
    subst ht'
    refine callsDIn_of_wpSIn hfn hbody trivial fun c₀ cs hu=>?_
    unfold aa Tryz.f73
    refine wpSIn_seq (wpSIn_region ?_)
    simp[wpOpsSIn,go_sem,recoverD,hu,hn,Exit.thenS,Oper.about,Region.wanted]
    refine wpSIn_seq (wpSIn_region ?_)
    simp[wpOpsSIn,go_sem,recoverD,hu,Exit.thenS,Oper.about,Region.wanted]
    refine wpSIn_cond (t:=true) (by simp[Act.eval]) ?_
    simp only[if_true]
    refine wpSIn_of_wpIn rfl ?_
    have hr:StRel F { w:=w,own:=own} 7 own ⟨[(0,.ptr id 0),(1,.v (.iface 169 (.int .i64 e)))],h⟩ { tmps:= #[.pointer (some ⟨b,0,none⟩),.iface 169 (.int .i64 e),.iface 169 (.int .i64 e),.iface 169 (.int .i64 e),.bool true,undef,undef],defers:=[]} w:=by
     refine⟨rfl,Dfr.nil,hp,Fr.refl { w:=w,own:=own},fun t=>?_⟩
     rw[mK]
     by_cases h0:0=t
     ·subst h0;rw[if_pos rfl];exact .ptr ho hpb
     ·rw[if_neg h0,mK]
      by_cases h1:1=t
      ·subst h1;rw[if_pos rfl];exact .v _
      ·rw[if_neg h1];exact .any _
    refine wpIn_mono (Gc (ts:=ts) (L:=L0) (Q:=fun st=>st.h=bO h id (.cells [.i e])) mixed ax hG (by kernel_rfl) ?_ hr) ?_
    ·simp only[go_sem,hob,tX (h:=h) (i:=id) (o:=.cells [.v (.int .i64 e)]) rfl hfw,gS,Nat.reduceBEq,Nat.reduceLeDiff,Nat.reduceAdd,true_and,and_true,true_imp_iff]
    ·rintro ex a' w' ⟨rfl,own1,st1,hst1,hh⟩
     have hd0:a'.defers=[]:=by
      obtain⟨ms,Ds,q0,q1,q2,q3⟩:=hst1.defers
      cases Ds with
      |nil=>rw[q0];simp at q1;simp[q1]
      |cons D r=>
       obtain⟨m1,m2,_⟩:=q3 D (by simp)
       have:=hp.foreign D m2
       simp only at m1
       omega
     refine⟨hd0,.panicking [{ v:=.iface 169 (.int .i64 e),recovered:=true}],?_,_,by simp[results,hres];rfl,⟨_,rfl⟩,rfl,own1,hh▸hst1.hp,hst1.fr⟩
     cases c₀
     simp_all
  ·cases hx
attribute [go_sem] gS
end Go.Sx
end
section
namespace Go.Sx
open Go.Proofs
set_option maxRecDepth 100000
set_option linter.unusedSimpArgs false
abbrev SV.u (n:Nat):SV:=.v (.int .u64 (n:Int))
def xw (ps:List (Nat×(List SV→Option Con)))(os:List (Nat×(List SV→List Ob→Option HCon)))(Y:List SV→Res→Option YCon):Cons:=⟨mkP ps,mkO os,Y⟩
@[go_sem] theorem W8 {ps:List (Nat×(List SV→Option Con))}{os:List (Nat×(List SV→List Ob→Option HCon))}{Y:List SV→Res→Option YCon}:(xw ps os Y).p=mkP ps:=(rfl)
@[go_sem] theorem W9 {ps:List (Nat×(List SV→Option Con))}{os:List (Nat×(List SV→List Ob→Option HCon))}{Y:List SV→Res→Option YCon}:(xw ps os Y).o=mkO os:=(rfl)
@[go_sem] theorem W_ {ps:List (Nat×(List SV→Option Con))}{os:List (Nat×(List SV→List Ob→Option HCon))}{Y:List SV→Res→Option YCon}:(xw ps os Y).y=Y:=(rfl)
theorem uT {P:Program}{ps:List (Nat×(List SV→Option Con))}{os:List (Nat×(List SV→List Ob→Option HCon))}{Y:List SV→Res→Option YCon}(h1:∀ x∈ps,FnOk P x.1 x.2)(h2:∀ x∈os,FnOkO P x.1 x.2)(h3:YOk P Y):ConsOk P (xw ps os Y):=⟨F9 ps h1,F_ os h2,h3⟩
def C90:List SV→List Ob→Option HCon:=fun l h=>noH h ((pU fun n=>pU fun d=>pE { α:=Unit,pre:=True,post:=fun _=>True,res:=fun _=>.ret (.fn 190 [] [.ptr 0 0,.ptr 1 0]) [.cells [.v (.int .u64 n)],.cells [.v (.int .u64 d)]]}) l)
theorem QC:FnOkO Tryz.prog 184 C90:=by
 have hG:ConsOk Tryz.prog (mkG [] []):=aC (by simp) (by simp)
 refine y4 mixed ax hG (fn:=Tryz.f184) (c:=aa Tryz.f184) (by kernel_rfl) (by kernel_rfl) (by kernel_rfl) (by kernel_rfl) fun l o con h hp=>?_
 unfold C90 at h
 obtain⟨rfl,h⟩:=MW h
 obtain⟨n,l0,rfl,h0⟩:=Ck h
 obtain⟨d,l1,rfl,h1⟩:=Ck h0
 obtain⟨rfl,rfl⟩:=p8 h1
 refine⟨Nat.le_of_ble_eq_true rfl,L0,by unfold aa Tryz.f184;simp only[ay,and_self],?_⟩
 unfold aa Tryz.f184
 simp only[go_sem,true_imp_iff,decide_eq_true_eq,Nat.reduceBEq,Nat.reduceLeDiff,Nat.reduceAdd,Nat.reduceSub,Nat.reduceMul,true_and,and_true,implies_true]
 refine⟨(),_,_,[0,1],rfl,?_⟩
 simp only[go_sem,Nat.reduceBEq,Nat.reduceLeDiff,Nat.reduceAdd,true_and,and_true]
 exact⟨rfl,rfl⟩
def wh:Nat→Nat→Nat→List Nat
 |0,n,d=>if n=0 then []else [n,d]
 |f+1,n,d=>if n=0 then []else n::(if n % max d 1=0 then [d]else wh f d (n % max d 1))
def mL (f n d:Nat):List (List SV):=(wh f n d).map fun x=>[SV.u x]
theorem Kk (f d:Nat):mL f 0 d=[]:=by cases f <;>rfl
theorem Kl {f n d:Nat}(hn:n≠0)(hf:d≤f):∃ T,mL f n d=[SV.u n]::T∧(n % max d 1=0→T=[[SV.u d]])∧(n % max d 1≠0→∃ f',T=mL f' d (n % max d 1)∧n % max d 1≤f'∧n % max d 1<d):=by
 cases f with
 |zero=>
  have hd:d=0:=by omega
  subst hd
  refine⟨[[SV.u 0]],by simp[mL,wh,hn],fun _=>rfl,fun h=>?_⟩
  exfalso;apply h;simp[Nat.mod_one]
 |succ f=>
  by_cases h0:n % max d 1=0
  ·exact⟨[[SV.u d]],by simp[mL,wh,hn,h0],fun _=>rfl,fun h=>absurd h0 h⟩
  ·refine⟨mL f d (n % max d 1),by simp[mL,wh,hn,h0],fun h=>absurd h h0,fun _=>⟨f,rfl,?_⟩⟩
   have hlt:n % max d 1<max d 1:=Nat.mod_lt _ (by omega)
   have hd:1≤d:=by
    rcases Nat.eq_zero_or_pos d with h|h
    ·subst h;exfalso;apply h0;simp[Nat.mod_one]
    ·exact h
   omega
theorem Km (n d:Nat):((n:Int).tmod (if(d:Int) <1 then 1 else(d:Int)))=((n % max d 1:Nat):Int):=by
 have e:(if(d:Int) <1 then(1:Int)else(d:Int))=((max d 1:Nat):Int):=by split <;>omega
 rw[e,Int.tmod_eq_emod_of_nonneg (by omega)];rfl
open Classical in
theorem QD (n0 d0:Nat):Aw Tryz.prog 190 (fun y=>[y,.ptr 1 0,.ptr 2 0]) [.cells [SV.u n0],.cells [SV.u d0]] (mL d0 n0 d0):=by
 refine J0 (fun r hr hy=>?_) (fun args w=>by kernel_rfl)
 have hG:ConsOk Tryz.prog (xw [] [] (itY (mL d0 n0 d0) r)):=uT (by simp) (by simp) hy
 refine⟨fun l h=>if l=[.os 0,.ptr 1 0,.ptr 2 0]∧h=[.ab (r 1),.cells [SV.u n0],.cells [SV.u d0]]then some { α:=Nat,pre:=True,post:=fun j=>j=0∨j=(mL d0 n0 d0).length+1,res:=fun j=>.ret (.tup []) [.ab (r j),.dead,.dead]}else none,
  ?_,_,if_pos ⟨rfl,rfl⟩,trivial,fun j hj=>⟨_,j,_,rfl,hj⟩⟩
 refine y4 mixed ax hG (fn:=Tryz.f190) (c:=aa Tryz.f190) (by kernel_rfl) (by kernel_rfl) (by kernel_rfl) (by kernel_rfl) fun l o con h hp=>?_
 split at h
 ·rename_i hlo
  obtain⟨rfl,rfl⟩:=hlo
  cases h
  refine⟨Nat.le_of_ble_eq_true rfl,fun id st=>bif Nat.beq id 0 then some { α:=Nat×Bool,pre:=lk 0 st.t=.os 0∧lk 1 st.t=.ptr 1 0∧lk 2 st.t=.ptr 2 0∧st.h=[.ab (r 1),.cells [SV.u n0],.cells [SV.u d0]],post:=fun j=>j.1=0∨j.1=(mL d0 n0 d0).length+1,ex:=fun j=>bif j.2 then .ret else .normal,out:=fun j=>⟨[],[.ab (r j.1),.dead,.dead]⟩:LCon}else none,?_,?_⟩
  ·unfold aa Tryz.f190
   simp only[ay,true_and,and_true]
   refine uS mixed ax hG (by kernel_rfl) fun st lc hC hp=>?_
   simp only[go_sem,Nat.reduceBEq,Option.some.injEq]at hC
   subst hC
   obtain⟨t,h⟩:=st
   dsimp only at hp
   obtain⟨h0,h1,h2,rfl⟩:=hp
   refine⟨Nat×Nat×Nat×Nat,fun x=>⟨[(0,.os 0),(1,.ptr 1 0),(2,.ptr 2 0)],[.ab (r (x.1+1)),.cells [SV.u x.2.2.1],.cells [SV.u x.2.2.2]]⟩,fun x=>x.2.2.2≤x.2.1∧(mL d0 n0 d0).drop x.1=mL x.2.1 x.2.2.1 x.2.2.2∧x.1≤(mL d0 n0 d0).length,fun x=>x.2.2.2,(0,d0,n0,d0),[0,1,2],⟨Nat.le_refl _,rfl,Nat.zero_le _⟩,Nat.le_refl _,?_,?_⟩
   ·simp only[go_sem,h0,h1,h2,Nat.reduceBEq,Nat.reduceLeDiff,Nat.reduceAdd,true_and,and_true]
    decide
   ·rintro⟨k,f,n,d⟩ ⟨hf,hdrop,hk⟩
    simp only at hf hdrop hk
    refine⟨L0,_,by simp only[ay,and_self],fun _ _ q=>q,?_⟩
    simp only[go_sem,Cn hr,true_imp_iff,decide_eq_true_eq,Km,Bool.false_eq_true,false_imp_iff,Nat.reduceBEq,Nat.reduceLeDiff,Nat.reduceAdd,Nat.reduceSub,Nat.reduceMul,true_and,and_true,implies_true]
    have hget:∀ (l:List (List SV)) (j:Nat),l=(mL d0 n0 d0).drop k→(mL d0 n0 d0)[k+j]? =l[j]?:=fun l j e=>by rw[e,List.getElem?_drop]
    have hlen:(mL f n d).length=(mL d0 n0 d0).length - k:=by rw[←hdrop,List.length_drop]
    refine⟨fun hn=>?_,fun hn=>?_⟩
    ·have hn':n≠0:=by simpa using hn
     obtain⟨T,e1,e2,e3⟩:=Kl hn' hf
     have hT:(mL d0 n0 d0).drop (k+1)=T:=by rw[←List.drop_drop,hdrop,e1];rfl
     have h0':=hget _ 0 hdrop.symm
     rw[e1]at h0'
     have hk1:k+1≤(mL d0 n0 d0).length:=by
      have:=(List.getElem?_eq_some_iff.1 h0').1;omega
     refine⟨h0',⟨fun _=>⟨by split <;>omega,rfl,fun h2=>?_,fun h2=>?_⟩,fun h2=>?_⟩,?_⟩
     ·have h3:n % max d 1=0:=by
       have:=eq_of_beq h2
       generalize n % max d 1=q at this ⊢
       omega
      have hT2:=e2 h3
      have hl2:(mL d0 n0 d0).length=k+2:=by
       have:=congrArg List.length hT
       rw[hT2,List.length_drop]at this
       simp at this;omega
      refine⟨?_,⟨(k+1+2,true),[0,1,2],.inr (by rw[hl2]),rfl,⟨rfl,rfl,rfl⟩,by simp[As,B1,av,cH,pM,qX]⟩,⟨(0,true),[0,1,2],.inl rfl,rfl,⟨rfl,rfl,rfl⟩,by simp[As,B1,av,cH,pM,qX]⟩⟩
      have:(mL d0 n0 d0)[k+1]? =T[0]?:=by rw[←hT,List.getElem?_drop]
      rw[this,hT2];rfl
     ·have h3:n % max d 1≠0:=fun e=>by rw[e]at h2;simp at h2
      obtain⟨f',m1,m2,m3⟩:=e3 h3
      exact⟨(k+1,f',d,n % max d 1),[0,1,2],⟨m2,by rw[hT,m1],hk1⟩,m3,⟨rfl,rfl,rfl⟩,by simp[As,B1,av,cH,pM,qX,nth,iO,ren]⟩
     ·exact absurd hn (by rw[h2];simp)
     ·exact⟨(0,false),[0,1,2],.inl rfl,rfl,⟨rfl,rfl,rfl⟩,by simp[As,B1,av,cH,pM,qX]⟩
    ·have hn':n=0:=by simpa using hn
     subst hn'
     rw[Kk]at hlen
     simp at hlen
     exact⟨by simpa using hn,(k+1,false),[0,1,2],.inr (by show k+1=_;omega),rfl,⟨rfl,rfl,rfl⟩,by simp[As,B1,av,cH,pM,qX]⟩
  ·unfold aa Tryz.f190
   simp only[go_sem,true_imp_iff,decide_eq_true_eq,Nat.reduceBEq,Nat.reduceLeDiff,Nat.reduceAdd,Nat.reduceSub,Nat.reduceMul,true_and,and_true,implies_true]
   rintro⟨j,b⟩ hj
   cases b
   ·simp only[go_sem]
    exact⟨j,_,_,[0,1,2],hj,rfl,Nat.le_refl 3,by simp only[go_sem,Nat.reduceBEq,Nat.reduceLeDiff,Nat.reduceAdd,true_and,and_true];decide⟩
   ·simp only[go_sem]
    exact⟨j,_,_,[0,1,2],hj,rfl,Nat.le_refl 3,by simp only[go_sem,Nat.reduceBEq,Nat.reduceLeDiff,Nat.reduceAdd,true_and,and_true];decide⟩
 ·cases h
end Go.Sx
end
section
namespace Go.Sx
open Go.Proofs
set_option maxRecDepth 100000
set_option linter.unusedSimpArgs false
def Ir (n d:Nat):Nat:=if d=0 then n else(wh d n d).getLastD d
def C83:List SV→Option Con:=pU fun n=>pU fun d=>pE (.det (0≤n∧0≤d) (SV.u (Ir n.toNat d.toNat)))
theorem QE:FnOk Tryz.prog 175 C83:=by
 have hG:ConsOk Tryz.prog (mkG [] [(184,C90)]):=aC (by simp) (by
  intro x hx
  simp only[List.mem_cons,List.not_mem_nil,or_false]at hx
  rcases hx with rfl
  exact QC)
 refine p7 false mixed ax hG (fn:=Tryz.f175) (c:=aa Tryz.f175) (by kernel_rfl) (by kernel_rfl) (by kernel_rfl) (by kernel_rfl) fun l con h hp=>?_
 unfold C83 at h
 obtain⟨n',l0,rfl,h0⟩:=Ck h
 obtain⟨d',l1,rfl,h1⟩:=Ck h0
 obtain⟨rfl,rfl⟩:=p8 h1
 clear h h0 h1
 obtain⟨hn,hd⟩:=hp
 obtain⟨n,rfl⟩:=Int.eq_ofNat_of_zero_le hn
 obtain⟨d,rfl⟩:=Int.eq_ofNat_of_zero_le hd
 refine⟨Nat.le_of_ble_eq_true rfl,fun id st=>bif Nat.beq id 0 then some { α:=Unit,pre:=st.h=[.cells [SV.u d],.cells [SV.u n],.cells [SV.u d]]∧lk 12 st.t=.fn 190 [] [.ptr 1 0,.ptr 2 0]∧lk 4 st.t=.ptr 0 0,post:=fun _=>True,ex:=fun _=>.normal,out:=fun _=>⟨[(4,.ptr 0 0)],[.cells [SV.u ((wh d n d).getLastD d)],.dead,.dead]⟩:LCon}else none,?_,?_⟩
 ·unfold aa Tryz.f175
  simp only[ay,true_and,and_true]
  refine DT mixed ax hG (by decide) (by decide) (by kernel_rfl) (by kernel_rfl) fun st lc hC hp=>?_
  simp only[go_sem,Nat.reduceBEq,Option.some.injEq]at hC
  subst hC
  obtain⟨t,h⟩:=st
  dsimp only at hp
  obtain⟨rfl,h12,h4⟩:=hp
  refine⟨190,[.ptr 1 0,.ptr 2 0],mL d n d,Nat,[(4,.ptr 0 0)],fun v=>[.cells [SV.u v],.dead,.dead],fun k v=>v=((wh d n d).take k).getLastD d,fun _ _=>False,d,[0,1,2],h12,rfl,Nat.le_refl _,?_,QD n d,?_,?_,fun _ h=>h.elim,fun _ _ h=>h.elim⟩
  ·show Sub [0,1,2] 3 ⟨t,[.cells [SV.u d],.dead,.dead]⟩ ⟨[(4,.ptr 0 0)],[.cells [SV.u d],.dead,.dead]⟩
   simp only[go_sem,h4,Nat.reduceBEq,Nat.reduceLeDiff,Nat.reduceAdd,true_and,and_true]
   decide
  ·intro k y args hk hI
   unfold mL at hk
   rw[List.getElem?_map,Option.map_eq_some_iff]at hk
   obtain⟨x,hx,rfl⟩:=hk
   refine⟨rfl,L0,_,fun l=>by simp only[ay],fun l=>by simp only[ay],fun _ _ q=>q,?_⟩
   show exec ts _ L0 _ ⟨[(13,SV.u x),(4,SV.ptr 0 0)],[.cells [SV.u y],.dead,.dead]⟩ _
   simp only[go_sem,true_imp_iff,Nat.reduceBEq,Nat.reduceLeDiff,Nat.reduceAdd,true_and,and_true]
   refine⟨x,[0,1,2],?_,Nat.le_refl 3,?_⟩
   ·have hlt:=(List.getElem?_eq_some_iff.1 hx).1
    have hx2:=(List.getElem?_eq_some_iff.1 hx).2
    show x=((wh d n d).take (k+1)).getLastD d
    rw[List.take_succ_eq_append_getElem hlt,hx2]
    simp[List.getLastD_concat]
   ·simp only[go_sem,Nat.reduceBEq,Nat.reduceLeDiff,Nat.reduceAdd,true_and,and_true]
    decide
  ·intro y hI
   refine⟨(),[0,1,2],trivial,rfl,Nat.le_refl _,?_⟩
   have hy:y=(wh d n d).getLastD d:=by rw[hI,List.take_of_length_le (by simp[mL])]
   subst hy
   show Sub [0,1,2] 3 ⟨[(4,.ptr 0 0)],[.cells [SV.u _],.dead,.dead]⟩ ⟨[(4,.ptr 0 0)],[.cells [SV.u _],.dead,.dead]⟩
   simp only[go_sem,Nat.reduceBEq,Nat.reduceLeDiff,Nat.reduceAdd,true_and,and_true]
   decide
 ·unfold aa Tryz.f175
  simp only[go_sem,C90,true_imp_iff,decide_eq_true_eq,Bool.false_eq_true,false_imp_iff,Nat.reduceBEq,Nat.reduceLeDiff,Nat.reduceAdd,Nat.reduceSub,Nat.reduceMul,true_and,and_true,implies_true]
  refine⟨fun h=>?_,fun h _ _=>?_⟩
  ·have h':d=0:=by simpa using h
   simp[Ir,h']
  ·have h':d≠0:=by simpa using h
   simp[Ir,h']
attribute [go_sem] C83
end Go.Sx
end
section
namespace Go.Sx
open Go.RowKit
inductive NilS:St→St→Prop where
 |refl (st:St):NilS st st
 |cell {st:St} {t:List (Nat×SV)} {h:List Ob} {i j:Nat} {l:List SV} (o:Ob):NilS st ⟨t,h⟩→av h i=.cells l→l[j]? =some (.v (.slice none 0 0))→((∃ k,o=.row k [])∨∃ k,o=.grid k [])→NilS st ⟨t,bO h i (.cells (l.set j (.os h.length)))++[o]⟩
 |slot {st:St} {t:List (Nat×SV)} {h:List Ob} {i:Nat} (o:Ob):NilS st ⟨t,h⟩→lk i t=.v (.slice none 0 0)→((∃ k,o=.row k [])∨∃ k,o=.grid k [])→NilS st ⟨(i,.os h.length)::t,h++[o]⟩
section
variable {P:Program}{F:Nat→Prop}{w0:Bs}{N:Nat}
theorem Is (h:List Ob)(o:Ob):av (h++[o]) h.length=o:=by rw[nP,if_neg (by omega)];simp[av]
theorem Hm {own:Own}{h:List Ob}{a:Act}{w:World}{t:List (Nat×SV)}(hr:StRel F w0 N own ⟨t,h⟩ a w)(o:Ob)(ho:(∃ k,o=.row k [])∨∃ k,o=.grid k []):
  ∃ own',StRel F w0 N own' ⟨t,h++[o]⟩ a w∧(∀ id hd,own id=some hd→own' id=some hd)∧own' h.length=some { v:=.slice none 0 0}:=by
 let own':Own:=fun id=>if id=h.length then some { v:=.slice none 0 0}else own id
 have hsub:∀ id hd,own id=some hd→own' id=some hd:=fun id hd e=>by
  have:id≠h.length:=by have:=hr.hp.dom id hd e;simp only at this;omega
  simp only[own',if_neg this];exact e
 have hinv:∀ id hd b,own' id=some hd→b∈hd.bs→own id=some hd:=fun id hd b e hb=>by
  by_cases hi:id=h.length
  ·simp only[own',if_pos hi,Option.some.injEq]at e;subst e;cases hb
  ·simpa only[own',if_neg hi]using e
 have hc:Carries F own w F own' w:=⟨fun id hd e=>⟨hd,hsub id hd e,.refl _⟩,fun b _ hn=>⟨by
  rintro (hf| ⟨id,hd,e,hb⟩)
  ·exact hn (.inl hf)
  ·exact hn (.inr ⟨id,hd,hinv id hd b e hb,hb⟩),rfl⟩⟩
 refine⟨own',⟨hr.size,hr.defers,⟨fun id hd e=>?_,hr.hp.foreign,fun id hd b e hb=>hr.hp.apart id hd b (hinv id hd b e hb) hb,fun i j hi hj b e1 e2 b1 b2=>hr.hp.inj i j hi hj b (hinv i hi b e1 b1) (hinv j hj b e2 b2) b1 b2,fun id hd b e hb=>hr.hp.lt id hd b (hinv id hd b e hb) hb,fun id hd=>?_⟩,
  ⟨fun id hd e=>?_,fun id hd b e hb=>hr.fr.base id hd b (hinv id hd b e hb) hb,hr.fr.os,hr.fr.tape,hr.fr.output,hr.fr.size,hr.fr.block⟩,fun t=>(hr.slots t).carry hc⟩,hsub,by simp[own']⟩
 ·simp only[List.length_append,List.length_cons,List.length_nil]
  by_cases hi:id=h.length
  ·omega
  ·simp only[own',if_neg hi]at e;have:=hr.hp.dom id hd e;simp only at this;omega
 ·simp only at hd ⊢
  by_cases hi:id<h.length
  ·rw[nP,if_pos hi]at hd ⊢
   obtain⟨hd',e1,e2⟩:=hr.hp.obs id hd
   exact⟨hd',hsub id hd' e1,e2.carry hc (Nat.le_refl _) fun _ _=>rfl⟩
  ·by_cases hi2:id=h.length
   ·subst hi2
    rw[Is]
    refine⟨_,by simp[own'];rfl,?_⟩
    rcases ho with⟨k,rfl⟩ | ⟨k,rfl⟩
    ·exact .inl ⟨none,rfl,rfl,rfl⟩
    ·exact .inl ⟨rfl,rfl,rfl,rfl⟩
   ·rw[pb (by simp;omega)]at hd;cases hd
 ·obtain⟨hd',e1,e2⟩:=hr.fr.ids id hd e
  exact⟨hd',hsub id hd' e1,e2⟩
theorem NilS.rel {st st':St}(hn:NilS st st'){own:Own}{a:Act}{w:World}(hr:StRel F w0 N own st a w):∃ own',StRel F w0 N own' st' a w:=by
 induction hn with
 |refl=>exact⟨own,hr⟩
 | @slot t h i o _ hl ho ih=>
  obtain⟨own1,h1⟩:=ih
  obtain⟨own2,h2,h3,h4⟩:=Hm h1 o ho
  refine⟨own2,h2.size,h2.defers,h2.hp,h2.fr,fun u=>?_⟩
  rw[mK]
  split
  ·rename_i e
   subst e
   have:=h1.slots i
   rw[hl]at this
   rw[bS this]
   exact .os (hd:= { v:=.slice none 0 0}) h4 rfl
  ·exact h2.slots u
 | @cell t h i j l o _ hc hl ho ih=>
  obtain⟨own1,h1⟩:=ih
  obtain⟨own2,h2,h3,h4⟩:=Hm h1 o ho
  have hlt:i<h.length:=by
   rcases Nat.lt_or_ge i h.length with h'|h'
   ·exact h'
   ·rw[pb h']at hc;cases hc
  have hlen:(bO h i (.cells (l.set j (.os h.length)))).length=h.length:=by rw[bY,if_pos hlt]
  refine⟨own2,h2.size,h2.defers,⟨fun id hd e=>?_,h2.hp.foreign,h2.hp.apart,h2.hp.inj,h2.hp.lt,fun id hd=>?_⟩,h2.fr,h2.slots⟩
  ·have:=h2.hp.dom id hd e;simp only[List.length_append]at this ⊢;rw[hlen];exact this
  ·simp only at hd ⊢
   have hob:=h2.hp.obs id
   simp only at hob
   by_cases hi:id<h.length
   ·rw[nP,if_pos (by rw[hlen];exact hi)]at hd ⊢
    rw[nP,if_pos hi]at hob
    rw[du]at hd ⊢
    by_cases hii:i=id
    ·subst hii
     rw[if_pos rfl]at hd ⊢
     rw[hc]at hob
     obtain⟨hd',e1,b,cs,ty,m1,m2,m3,m4,m5⟩:=hob rfl
     refine⟨hd',e1,b,cs,ty,m1,m2,m3,by simpa using m4,fun j' s hs=>?_⟩
     rw[List.getElem?_set]at hs
     by_cases hj:j=j'
     ·subst hj
      rw[if_pos rfl]at hs
      split at hs
      ·cases hs
       have:=m5 j _ hl
       rw[bS this]
       exact .os (hd:= { v:=.slice none 0 0}) h4 rfl
      ·cases hs
     ·rw[if_neg hj]at hs
      exact m5 j' s hs
    ·rw[if_neg hii]at hd ⊢
     exact hob hd
   ·rw[nP,if_neg (by rw[hlen];exact hi),hlen]at hd ⊢
    rw[nP,if_neg hi]at hob
    exact hob hd
end
section
variable {P:Program}{F:Nat→Prop}{w0:Bs}{ro:Option Nat}{nd:Nat}{ts:Tis}{G:Cons}{L:qp}{N:Nat}
theorem ru {ts:Tis}{G:Cons}{ro:Option Nat}{N:Nat}(hm:P.follows .mixedOrders=true)(hts:ts.ok P)(hG:ConsOk P G){id:Nat}{c:Code}(hc:ci N c=true){C:St→Option LCon}
  (h:∀ st lc,C st=some lc→lc.pre→∃ (σ:Type) (D:σ→St) (I:σ→Prop) (m:σ→Nat) (x0:σ) (stN:St) (js:List Nat),I x0∧NilS st stN∧st.h.length≤(D x0).h.length∧Sub js st.h.length stN (D x0)∧
   ∀ x,I x→∃ L Qx,ay P ro N L c∧(∀ e st',Qx e st'→pO D I m st.h.length x id (fun e st'=>∃ r js,lc.post r∧lc.ex r=e∧st.h.length≤(lc.out r).h.length∧Sub js st.h.length st' (lc.out r)) e st')∧exec ts G L c (D x) Qx):iU P ro N id (.loop c) C:=by
 intro nd F w0 st lc hC hpre own a w hr
 obtain⟨σ,D,I,m,x0,stN,js,h1,hN,h2,h3,h4⟩:=h st lc hC hpre
 obtain⟨ownN,hrN⟩:=hN.rel hr
 refine wpIn_mono (Bc hm hts hG hc D I m st.h.length hr.base_lt _ h4 x0 h1 _ a w (hrN.sub h3 hr.base_lt h2)) ?_
 intro e a' w' hq
 have key:∀ ex F1 own' st',StRel F1 w0 N own' st' a' w'→(∃ r js,lc.post r∧lc.ex r=ex∧st.h.length≤(lc.out r).h.length∧Sub js st.h.length st' (lc.out r))→∃ own2 st2,StRel F1 w0 N own2 st2 a' w'∧∃ r,lc.post r∧ex=lc.ex r∧st2=lc.out r:=by
  rintro ex F1 own' st' hst ⟨r,js,q1,q2,q3,q4⟩
  exact⟨_,_,hst.sub q4 hr.base_lt q3,r,q1,q2.symm,rfl⟩
 cases e with
 |normal=>obtain⟨F1,own',st',h0,k1,k2⟩:=hq;obtain⟨own2,st2,q1,q2⟩:=key _ F1 own' st' k1 k2;exact⟨F1,own2,st2,h0,q1,q2⟩
 |exit j=>obtain⟨F1,own',st',h0,k1,k2⟩:=hq;obtain⟨own2,st2,q1,q2⟩:=key _ F1 own' st' k1 k2;exact⟨F1,own2,st2,h0,q1,q2⟩
 |ret=>obtain⟨F1,own',st',h0,k1,k2⟩:=hq;obtain⟨own2,st2,q1,q2⟩:=key _ F1 own' st' k1 k2;exact⟨F1,own2,st2,h0,q1,q2⟩
 |panic ch=>
  obtain⟨x,F1,own',st',h0,k1,k2,k3⟩:=hq
  obtain⟨own2,st2,q1,q2⟩:=key _ F1 own' st' k1 k2
  exact⟨x,F1,own2,st2,h0,q1,q2,k3⟩
 |_=>exact hq.elim
end
section
variable {P:Program}{ρ σ:Type}
def gA (st2:St)(n0:Nat)(st:St):Prop:= ∃ js,n0≤st2.h.length∧Sub js n0 st st2
theorem Cp {st2 st:St}{n0:Nat}(js:List Nat)(h1:n0≤st2.h.length)(h2:Sub js n0 st st2):gA st2 n0 st:=⟨js,h1,h2⟩
def mr (D:Nat→σ→St)(n0 k:Nat)(st:St):ρ⊕σ→Prop
 | .inl _=>False
 | .inr s'=>gA (D (k+1) s') n0 st
def ke (exE:ρ→Ex)(outE:ρ→St)(n0:Nat)(e:Ex)(st:St):ρ⊕σ→Prop
 | .inl x=>exE x=e∧gA (outE x) n0 st
 | .inr _=>False
def cE (step:Nat→σ→ρ⊕σ)(n:Nat)(exE:ρ→Ex)(outE:ρ→St)(outN:σ→St)(D:Nat→σ→St)(n0 id k:Nat)(s:σ):Ex→St→Prop
 | .normal,st=>k<n∧mr D n0 k st (step k s)
 | .exit j,st=>bif Nat.beq j id then(n≤k→gA (outN s) n0 st)∧(k<n→ke exE outE n0 .normal st (step k s))else k<n∧ke exE outE n0 (.exit j) st (step k s)
 | .ret,st=>k<n∧ke exE outE n0 .ret st (step k s)
 | .pan x,st=>k<n∧ke exE outE n0 (.pan x) st (step k s)
variable {step:Nat→σ→ρ⊕σ}{n n0 id k j:Nat}{exE:ρ→Ex}{outE:ρ→St}{outN:σ→St}{D:Nat→σ→St}{s s':σ}{st:St}{x:Value}{e:Ex}{y:ρ}
@[go_sem] theorem S0:mr (ρ:=ρ) D n0 k st (.inr s')=gA (D (k+1) s') n0 st:=(rfl)
@[go_sem] theorem UE:ke (σ:=σ) exE outE n0 e st (.inl y)=(exE y=e∧gA (outE y) n0 st):=(rfl)
@[go_sem] theorem S1:cE step n exE outE outN D n0 id k s .normal st=(k<n∧mr D n0 k st (step k s)):=(rfl)
@[go_sem] theorem Wi:cE step n exE outE outN D n0 id k s (.exit j) st=bif Nat.beq j id then(n≤k→gA (outN s) n0 st)∧(k<n→ke exE outE n0 .normal st (step k s))else k<n∧ke exE outE n0 (.exit j) st (step k s):=(rfl)
@[go_sem] theorem Xa:cE step n exE outE outN D n0 id k s .ret st=(k<n∧ke exE outE n0 .ret st (step k s)):=(rfl)
@[go_sem] theorem Xb:cE step n exE outE outN D n0 id k s (.pan x) st=(k<n∧ke exE outE n0 (.pan x) st (step k s)):=(rfl)
@[congr] theorem OW {r r':ρ⊕σ}(h:r=r'):mr D n0 k st r=mr D n0 k st r':=by rw[h]
end
def tY (p:Prop)(S:SV)(H:List Ob):HCon:= { α:=Unit,pre:=p,post:=fun _=>True,res:=fun _=>.ret S H}
def Kn (n0:Nat)(S:SV)(H:List Ob)(h:List Ob):Option SV→Prop
 |some s=>gA ⟨[(0,S)],H⟩ n0 ⟨[(0,s)],h⟩
 |none=>False
def OX (n0:Nat)(rs:List ResultVar)(ts:Tis)(S:SV)(H:List Ob):Ex→St→Prop
 | .exit _,_=>False
 | .normal,st=>Kn n0 S H st.h (kS (jF ts st rs))
 | .ret,st=>Kn n0 S H st.h (kS (jF ts st rs))
 | .pan _,_=>False
section
variable {P:Program}{ts:Tis}{G:Cons}{n0:Nat}{S s:SV}{H h:List Ob}{rs:List ResultVar}{st:St}{x:Value}{j:Nat}
@[go_sem] theorem S2:Kn n0 S H h (some s)=gA ⟨[(0,S)],H⟩ n0 ⟨[(0,s)],h⟩:=(rfl)
@[go_sem] theorem NF:OX n0 rs ts S H .normal st=Kn n0 S H st.h (kS (jF ts st rs)):=(rfl)
@[go_sem] theorem S3:OX n0 rs ts S H .ret st=Kn n0 S H st.h (kS (jF ts st rs)):=(rfl)
@[go_sem high] theorem QF {p:Prop}{ids:List Nat}{d:Option Nat}{K:St→Prop}{Z:Value→St→Prop}:uA ids d st K Z (some (tY p S H))=(p∧Fg ids d st K Z (.ret S H)):=by
 show(p∧∀ r:Unit,True→Fg ids d st K Z (.ret S H))=_
 simp
@[go_sem] theorem UF {nx:Nat}:gj G h nx .bad=none:=(rfl)
def hCR (t:Tag)(k:List t.T→Option HCon):List Ob→Option HCon
 | [.cells [.os 1],.row k' l] =>if h:k'=t then k (h▸l)else none
 |_=>none
open Classical in
noncomputable def pQ {α:Type 1}(X:SV)(k:List SV→Option α):List SV→Option α
 |s::r=>if s=X then k r else none
 | [] =>none
@[go_sem] theorem pQ_mk {α:Type 1}{X:SV}{k:List SV→Option α}{r:List SV}:pQ X k (X::r)=k r:=by simp[pQ]
theorem wi {α:Type 1}{X:SV}{k:List SV→Option α}{l:List SV}{c:α}(h:pQ X k l=some c):∃ r,l=X::r∧k r=some c:=by
 unfold pQ at h;split at h
 ·split at h
  ·rename_i e;subst e;exact⟨_,rfl,h⟩
  ·cases h
 ·cases h
def pXR {α:Type 1}(t:Tag)(k:List t.T→List SV→Option α):List SV→Option α
 | .ep [.rs k' l] 0::r=>Bf t k r k' l
 |_=>none
@[go_sem] theorem Xc {α:Type 1}{t:Tag}{k:List t.T→List SV→Option α}{l:List t.T}{r:List SV}:pXR t k (.ep [.rs t l] 0::r)=k l r:=by simp[pXR,Bf]
theorem NG {α:Type 1}{t:Tag}{k:List t.T→List SV→Option α}{l:List SV}{c:α}(h:pXR t k l=some c):∃ x r,l=.ep [.rs t x] 0::r∧k x r=some c:=by
 unfold pXR at h;split at h
 ·rename_i k' l' r
  unfold Bf at h
  split at h
  ·rename_i e;subst e;exact⟨_,_,rfl,h⟩
  ·cases h
 ·cases h
end
end Go.Sx
end
section
namespace Go.Sx
attribute [go_sem] true_imp_iff false_imp_iff Bool.false_eq_true Int.toNat_natCast Int.toNat_zero true_and and_true and_self implies_true forall_const
theorem cl {p:Prop}(h:p:=by(first|done|(repeat' (first|with_reducible refine And.intro ?_ ?_|((with_reducible show _≠_);first|assumption|omega|(simp_all [aX,bf];done) |grind) |with_reducible intro _)) <;>(first|done|exact Empty.elim ‹Empty› |assumption|rfl|omega|(simp only[*,cond_true,cond_false,Bool.not_true,Bool.not_false,go_sem,Nat.reduceBEq,Nat.reduceLeDiff,Nat.reduceAdd,Nat.reduceSub,Nat.reduceMul,Int.reduceLE,Int.reduceLT,Int.reduceToNat,Int.reduceNeg,reduceCtorEq];done) |(simp only[*,cond_true,cond_false,Bool.not_true,Bool.not_false,go_sem,Nat.reduceBEq,Nat.reduceLeDiff,Nat.reduceAdd,Nat.reduceSub,Nat.reduceMul,Int.reduceLE,Int.reduceLT,Int.reduceToNat,Int.reduceNeg,reduceCtorEq];(repeat' (first|with_reducible refine And.intro ?_ ?_|((with_reducible show _≠_);first|assumption|omega|(simp_all [aX,bf];done) |grind) |with_reducible intro _)) <;>(first|done|assumption|rfl|omega|(simp_all [aX,bf];done))) |(simp_all [okI,aX,bf];done) |grind))):p:=h
theorem cl2 {p:Prop}(h:p:=by(first|done|(repeat' (first|with_reducible refine And.intro ?_ ?_|((with_reducible show _≠_);first|assumption|omega|(simp_all [aX,bf];done) |grind) |with_reducible intro _)) <;>(first|done|exact Empty.elim ‹Empty› |assumption|rfl|omega|(simp only[*,go_sem,Nat.reduceBEq,Nat.reduceLeDiff,Nat.reduceAdd,Nat.reduceSub,Nat.reduceMul,Int.reduceLE,Int.reduceLT,Int.reduceToNat,Int.reduceNeg,reduceCtorEq];done) |(simp_all [aX,bf];done)))):p:=h
theorem fk {st2 st:St}{n0:Nat}(js:List Nat)(h1:n0≤st2.h.length:=by(first|(show _≤_;decide) |(simp only[*,go_sem,Nat.reduceBEq,Nat.reduceLeDiff,Nat.reduceAdd,Nat.reduceSub,Nat.reduceMul,Int.reduceLE,Int.reduceLT,Int.reduceToNat,Int.reduceNeg,reduceCtorEq];done) |(simp only[*,go_sem,Nat.reduceBEq,Nat.reduceLeDiff,Nat.reduceAdd,Nat.reduceSub,Nat.reduceMul,Int.reduceLE,Int.reduceLT,Int.reduceToNat,Int.reduceNeg,reduceCtorEq];(repeat' (first|with_reducible refine And.intro ?_ ?_|((with_reducible show _≠_);first|assumption|omega|(simp_all [aX,bf];done) |grind) |with_reducible intro _)) <;>(first|rfl|decide|assumption|omega|(simp_all [aX,bf];done)))))(h2:Sub js n0 st st2:=by(first|(show _≤_;decide) |(simp only[*,go_sem,Nat.reduceBEq,Nat.reduceLeDiff,Nat.reduceAdd,Nat.reduceSub,Nat.reduceMul,Int.reduceLE,Int.reduceLT,Int.reduceToNat,Int.reduceNeg,reduceCtorEq];done) |(simp only[*,go_sem,Nat.reduceBEq,Nat.reduceLeDiff,Nat.reduceAdd,Nat.reduceSub,Nat.reduceMul,Int.reduceLE,Int.reduceLT,Int.reduceToNat,Int.reduceNeg,reduceCtorEq];(repeat' (first|with_reducible refine And.intro ?_ ?_|((with_reducible show _≠_);first|assumption|omega|(simp_all [aX,bf];done) |grind) |with_reducible intro _)) <;>(first|rfl|decide|assumption|omega|(simp_all [aX,bf];done))))):gA st2 n0 st:=Cp js h1 h2
theorem fk2 {st2 st:St}{n0:Nat}(js:List Nat)(h1:n0≤st2.h.length:=by(first|(show _≤_;decide) |(simp only[go_sem,Nat.reduceBEq,Nat.reduceLeDiff,Nat.reduceAdd,Nat.reduceSub,Nat.reduceMul,Int.reduceLE,Int.reduceLT,Int.reduceToNat,Int.reduceNeg,reduceCtorEq];(repeat' (first|with_reducible refine And.intro ?_ ?_|((with_reducible show _≠_);first|assumption|omega|(simp_all [aX,bf];done) |grind) |with_reducible intro _)) <;>(first|rfl|decide|assumption|omega|(simp_all [aX,bf];done)))))(h2:Sub js n0 st st2:=by(first|(show _≤_;decide) |(simp only[go_sem,Nat.reduceBEq,Nat.reduceLeDiff,Nat.reduceAdd,Nat.reduceSub,Nat.reduceMul,Int.reduceLE,Int.reduceLT,Int.reduceToNat,Int.reduceNeg,reduceCtorEq];(repeat' (first|with_reducible refine And.intro ?_ ?_|((with_reducible show _≠_);first|assumption|omega|(simp_all [aX,bf];done) |grind) |with_reducible intro _)) <;>(first|rfl|decide|assumption|omega|(simp_all [aX,bf];done))))):gA st2 n0 st:=Cp js h1 h2
theorem cg0 {α:Type _}{p:α→Prop}:∀ x∈([]:List α),p x:=fun _ h=>by cases h
theorem cgc {α:Type _}{p:α→Prop}{a:α}{l:List α}(h:p a)(t:∀ x∈l,p x):∀ x∈a::l,p x:=fun x hx=>by
 rcases List.mem_cons.1 hx with rfl|hx
 ·exact h
 ·exact t x hx
attribute [go_sem] if_true
end Go.Sx
end
section
namespace Go.Sx
open Go.RowKit
section
variable {P:Program}
end
end Go.Sx
end
section
namespace Go.Sx
open Go.RowKit
def okL {ρ σ τ:Type}(step:τ→σ→ρ⊕σ)(p:τ→σ→Prop):List τ→σ→Prop
 | [],_=>True
 |x::l,s=>p x s∧∀ s',step x s=.inr s'→okL step p l s'
theorem xY {ρ σ τ:Type}{step:τ→σ→ρ⊕σ}{p:τ→σ→Prop}:∀ (l:List τ) (s:σ),(∀ x∈l,∀ s,p x s)→okL step p l s
 | [],_,_=>trivial
 |x::l,s,h=>⟨h x (by simp) s,fun s' _=>xY l s' fun y hy=>h y (by simp[hy])⟩
section
variable {ρ σ τ:Type}
def rgN (T:List (Nat×SV))(H:σ→List Ob)(n0:Nat)(st:St):ρ⊕σ→Prop
 | .inl _=>False
 | .inr s'=>gA ⟨T,H s'⟩ n0 ⟨T,st.h⟩
def rgX (exE:ρ→Ex)(T:List (Nat×SV))(Hy:ρ→List Ob)(n0:Nat)(e:Ex)(st:St):ρ⊕σ→Prop
 | .inl y=>exE y=e∧gA ⟨T,Hy y⟩ n0 ⟨T,st.h⟩
 | .inr _=>False
def rgQ (step:τ→σ→ρ⊕σ)(exE:ρ→Ex)(T:List (Nat×SV))(H:σ→List Ob)(Hy:ρ→List Ob)(n0 id:Nat)(x:τ)(s:σ):Ex→St→Prop
 | .normal,st=>rgN T H n0 st (step x s)
 | .exit j,st=>rgX exE T Hy n0 (bif Nat.beq j id then .normal else .exit j) st (step x s)
 | .ret,st=>rgX exE T Hy n0 .ret st (step x s)
 | .pan _,_=>False
variable {step:τ→σ→ρ⊕σ}{exE:ρ→Ex}{T:List (Nat×SV)}{H:σ→List Ob}{Hy:ρ→List Ob}{n0 id j:Nat}{x:τ}{s s':σ}{y:ρ}{st:St}{e:Ex}
@[go_sem] theorem Wj:rgN (ρ:=ρ) T H n0 st (.inr s')=gA ⟨T,H s'⟩ n0 ⟨T,st.h⟩:=(rfl)
@[go_sem] theorem Wk:rgX (σ:=σ) exE T Hy n0 e st (.inl y)=(exE y=e∧gA ⟨T,Hy y⟩ n0 ⟨T,st.h⟩):=(rfl)
@[go_sem] theorem QG:rgQ step exE T H Hy n0 id x s .normal st=rgN T H n0 st (step x s):=(rfl)
@[go_sem] theorem Wl:rgQ step exE T H Hy n0 id x s .ret st=rgX exE T Hy n0 .ret st (step x s):=(rfl)
@[go_sem] theorem UG:rgQ step exE T H Hy n0 id x s (.exit j) st=rgX exE T Hy n0 (bif Nat.beq j id then .normal else .exit j) st (step x s):=(rfl)
@[congr] theorem S4 {r r':ρ⊕σ}(h:r=r'):rgN T H n0 st r=rgN T H n0 st r':=by rw[h]
@[congr] theorem S5 {r r':ρ⊕σ}{e e':Ex}(h:r=r')(he:e=e'):rgX exE T Hy n0 e st r=rgX exE T Hy n0 e' st r':=by rw[h,he]
end
section
variable {P:Program}{ts:Tis}{G:Cons}{N:Nat}
theorem pj (hm:P.follows .mixedOrders=true)(hts:ts.ok P)(hG:ConsOk P G){id:Nat}{g:Operand}{ps:Array Tmp}{assign body:Code}{C:St→Option LCon}
  (hpn:ps.toList.Nodup) (hpN:∀ p∈ps.toList,p<N) (hca:ci N assign=true) (hcb:ci N body=true)
  (h:∀ st lc,C st=some lc→lc.pre→∃ (f:FuncId) (caps:List SV) (τ ρ σ:Type) (l:List τ) (mk:τ→List SV) (step:τ→σ→ρ⊕σ) (p:τ→σ→Prop) (pre:Prop) (s0:σ) (exE:ρ→Ex) (outE:ρ→St) (outN:σ→St) (T:List (Nat×SV)) (H:σ→List Ob) (Hy:ρ→List Ob) (js:List Nat),
   raw st.t g=.fn f [] caps∧lc=LC pre (cI step l s0) exE outE outN∧okL step p l s0∧st.h.length≤(H s0).length∧Sub js st.h.length ⟨st.t,qr (kc st caps) st.h⟩ ⟨T,H s0⟩∧
   Aw P f (fun y=>y::caps.map (ren (Io (kc st caps)) 3)) (Gb (kc st caps) st.h) (l.map mk)∧
   (∀ x s,p x s→(mk x).length=ps.size∧∃ L,(∀ l,ay P (some l) N L assign)∧(∀ l,ay P (some l) N L body)∧exec ts G L assign ⟨psT ps.toList (mk x)++T,H s⟩ (fun e st1=>e=.normal∧exec ts G L body st1 (rgQ step exE T H Hy st.h.length id x s)))∧
   (∀ s,gA (outN s) st.h.length ⟨T,H s⟩)∧∀ y,gA (outE y) st.h.length ⟨T,Hy y⟩):iU P none N id (.rangeFunc g ps assign body) C:=by
 refine DT hm hts hG hpn hpN hca hcb fun st lc hC hp=>?_
 obtain⟨f,caps,τ,ρ,σ,l,mk,step,p,pre,s0,exE,outE,outN,T,H,Hy,js,h1,rfl,h2,h3,h4,h5,h6,h7,h8⟩:=h st lc hC hp
 refine⟨f,caps,l.map mk,σ⊕ρ,T,fun z=>match z with| .inl s=>H s| .inr y=>Hy y,fun k z=>match z with| .inl s=>cI step (l.drop k) s=cI step l s0∧okL step p (l.drop k) s| .inr _=>False,
  fun e z=>match z with| .inl _=>False| .inr y=>cI step l s0=.inl y∧(match e with| .ret=>exE y=.ret| .exit j=>exE y=(bif Nat.beq j id then .normal else .exit j) |_=>False),.inl s0,js,h1,⟨rfl,h2⟩,h3,h4,h5,?_,?_,?_,?_⟩
 ·rintro k z args hk hI
  cases z with
  |inr y=>exact hI.elim
  |inl s=>
   obtain⟨hrun,hok⟩:=hI
   rw[List.getElem?_map,Option.map_eq_some_iff]at hk
   obtain⟨x,hx,rfl⟩:=hk
   have hlt:=(List.getElem?_eq_some_iff.1 hx).1
   have hd:l.drop k=x::l.drop (k+1):=by
    rw[List.drop_eq_getElem_cons hlt];congr 1;exact(List.getElem?_eq_some_iff.1 hx).2
   rw[hd]at hrun hok
   obtain⟨hl,L,hla,hlb,hex⟩:=h6 x s hok.1
   refine⟨hl,L,_,hla,hlb,?_,hex⟩
   intro e st' hq
   have fin:∀ e',rgX exE T Hy st.h.length e' st' (step x s)→∃ y js,exE y=e'∧cI step l s0=.inl y∧st.h.length≤(Hy y).length∧Sub js st.h.length ⟨T,st'.h⟩ ⟨T,Hy y⟩:=by
    intro e' q
    cases hs:step x s with
    |inr s'=>rw[hs]at q;exact q.elim
    |inl y=>
     rw[hs]at q
     obtain⟨q1,js,q2,q3⟩:=q
     simp only[cI,hs]at hrun
     exact⟨y,js,q1,hrun.symm,q2,q3⟩
   cases e with
   |normal=>
    change rgN T H st.h.length st' (step x s)at hq
    cases hs:step x s with
    |inl y=>rw[hs]at hq;exact hq.elim
    |inr s'=>
     rw[hs]at hq
     obtain⟨js,q1,q2⟩:=hq
     simp only[cI,hs]at hrun
     exact⟨.inl s',js,⟨hrun,hok.2 s' hs⟩,q1,q2⟩
   |exit j=>
    obtain⟨y,js,q1,q2,q3,q4⟩:=fin _ hq
    exact⟨.inr y,js,⟨q2,q1⟩,q3,q4⟩
   |ret=>
    obtain⟨y,js,q1,q2,q3,q4⟩:=fin _ hq
    exact⟨.inr y,js,⟨q2,q1⟩,q3,q4⟩
   |pan x=>exact hq.elim
 ·intro z hI
  cases z with
  |inr y=>exact hI.elim
  |inl s=>
   obtain⟨js,q1,q2⟩:=h7 s
   have:=hI.1
   rw[List.length_map,List.drop_length]at this
   exact⟨.inr s,js,this,rfl,q1,q2⟩
 ·intro z hS
  cases z with
  |inl s=>exact hS.elim
  |inr y=>
   obtain⟨js,q1,q2⟩:=h8 y
   exact⟨.inl y,js,hS.1.symm,hS.2,q1,q2⟩
 ·intro j z hS
  cases z with
  |inl s=>exact hS.elim
  |inr y=>
   obtain⟨js,q1,q2⟩:=h8 y
   refine⟨.inl y,js,hS.1.symm,?_,q1,q2⟩
   have:=hS.2
   show exE y=_
   rw[this]
   by_cases hj:j=id
   ·rw[if_pos hj]
    have hb:Nat.beq j id=true:=by rw[hj];exact Nat.beq_refl id
    rw[hb];rfl
   ·rw[if_neg hj]
    cases hb:Nat.beq j id with
    |true=>exact absurd (Nat.eq_of_beq_eq_true hb) hj
    |false=>rfl
end
end Go.Sx
end
section
namespace Go.Sx
open Go.RowKit
section
variable {P:Program}{ρ σ τ:Type}
def tZ:Ob→Option Nat
 | .mi _ _ _ c=>c
 |_=>none
def nxC (step:τ→σ→ρ⊕σ)(l:List τ)(d:τ)(D:List Nat→Option Nat→σ→St)(n0:Nat)(left:List Nat)(s:σ)(st:St):Option Nat→Prop
 |some j=>j∈left∧mr (fun _ s'=>D (left.erase j) (some j) s') n0 0 st (step (l.getD j d) s)
 |none=>False
def exC (step:τ→σ→ρ⊕σ)(l:List τ)(d:τ)(exE:ρ→Ex)(outE:ρ→St)(n0:Nat)(left:List Nat)(s:σ)(e:Ex)(st:St):Option Nat→Prop
 |some j=>j∈left∧ke exE outE n0 e st (step (l.getD j d) s)
 |none=>False
def cM (step:τ→σ→ρ⊕σ)(l:List τ)(d:τ)(exE:ρ→Ex)(outE:ρ→St)(outN:σ→St)(D:List Nat→Option Nat→σ→St)(n0 id it:Nat)(left:List Nat)(s:σ):Ex→St→Prop
 | .normal,st=>nxC step l d D n0 left s st (tZ (av st.h it))
 | .exit j,st=>bif Nat.beq j id then(left=[]→gA (outN s) n0 st)∧(left≠[]→exC step l d exE outE n0 left s .normal st (tZ (av st.h it)))else exC step l d exE outE n0 left s (.exit j) st (tZ (av st.h it))
 | .ret,st=>exC step l d exE outE n0 left s .ret st (tZ (av st.h it))
 | .pan x,st=>exC step l d exE outE n0 left s (.pan x) st (tZ (av st.h it))
variable {step:τ→σ→ρ⊕σ}{l:List τ}{d:τ}{n0 id it j:Nat}{exE:ρ→Ex}{outE:ρ→St}{outN:σ→St}{D:List Nat→Option Nat→σ→St}{left:List Nat}{s s':σ}{st:St}{x:Value}{e:Ex}{y:ρ}{t:List (Nat×SV)}{h:List Ob}
@[go_sem] theorem Wm {m:Option Nat}{n:Nat}{left:List Nat}{c:Option Nat}:tZ (.mi m n left c)=c:=(rfl)
@[go_sem] theorem UH:nxC step l d D n0 left s st (some j)=(j∈left∧mr (fun _ s'=>D (left.erase j) (some j) s') n0 0 st (step (l.getD j d) s)):=(rfl)
@[go_sem] theorem UJ:exC step l d exE outE n0 left s e st (some j)=(j∈left∧ke exE outE n0 e st (step (l.getD j d) s)):=(rfl)
@[go_sem] theorem S6:cM step l d exE outE outN D n0 id it left s .normal ⟨t,h⟩=nxC step l d D n0 left s ⟨t,h⟩ (tZ (av h it)):=(rfl)
@[go_sem] theorem Wn:cM step l d exE outE outN D n0 id it left s (.exit j) ⟨t,h⟩=bif Nat.beq j id then(left=[]→gA (outN s) n0 ⟨t,h⟩)∧(left≠[]→exC step l d exE outE n0 left s .normal ⟨t,h⟩ (tZ (av h it)))else exC step l d exE outE n0 left s (.exit j) ⟨t,h⟩ (tZ (av h it)):=(rfl)
@[go_sem] theorem Xd:cM step l d exE outE outN D n0 id it left s .ret ⟨t,h⟩=exC step l d exE outE n0 left s .ret ⟨t,h⟩ (tZ (av h it)):=(rfl)
@[go_sem] theorem Xe:cM step l d exE outE outN D n0 id it left s (.pan x) ⟨t,h⟩=exC step l d exE outE n0 left s (.pan x) ⟨t,h⟩ (tZ (av h it)):=(rfl)
@[congr] theorem UK {st st':St}{e e':Ex}(h:st=st')(he:e=e'):cM step l d exE outE outN D n0 id it left s e st=cM step l d exE outE outN D n0 id it left s e' st':=by rw[h,he]
attribute [go_sem] Jq
@[go_sem] theorem UL {t:List (Nat×SV)}{h:List Ob}{d:Nat}{s:SV}:St.put ⟨t,h⟩ (some d) s=⟨(d,s)::t,h⟩:=(rfl)
@[go_sem] theorem UN {t:List (Nat×SV)}{h:List Ob}{s:SV}:St.put ⟨t,h⟩ none s=⟨t,h⟩:=(rfl)
theorem zb (l:List τ)(d:τ):(List.range l.length).map (fun j=>l.getD j d)=l:=by
 apply List.ext_getElem
 ·simp
 ·intro i h1 h2
  simp only[List.length_map,List.length_range]at h1
  simp[List.getD_eq_getElem?_getD,List.getElem?_eq_getElem h1]
end
end Go.Sx
end
section
namespace Go.Sx
open Go.RowKit
inductive NLoc where
 |slot (i:Nat) (o:Ob)
 |cell (i j:Nat) (o:Ob)
def Ko (j n:Nat):Ob→Ob
 | .cells l=>.cells (l.set j (.os n))
 |o=>o
def NH (j:Nat):Ob→Prop
 | .cells l=>nth l j=some (.v (.slice none 0 0))
 |_=>False
def Bi:Ob→Prop
 | .row _ l=>l=[]
 | .grid _ l=>l=[]
 |_=>False
def mkN:List NLoc→St→St
 | [],st=>st
 | .slot i o::r,⟨t,h⟩ =>mkN r ⟨(i,.os h.length)::t,h++[o]⟩
 | .cell i j o::r,⟨t,h⟩ =>mkN r ⟨t,bO h i (Ko j h.length (av h i))++[o]⟩
def okN:List NLoc→St→Prop
 | [],_=>True
 | .slot i o::r,⟨t,h⟩ =>lk i t=.v (.slice none 0 0)∧Bi o∧okN r ⟨(i,.os h.length)::t,h++[o]⟩
 | .cell i j o::r,⟨t,h⟩ =>NH j (av h i)∧Bi o∧okN r ⟨t,bO h i (Ko j h.length (av h i))++[o]⟩
section
variable {i j m n:Nat}{o:Ob}{r:List NLoc}{t t2:List (Nat×SV)}{h h2:List Ob}{l:List SV}{ns:List NLoc}{js:List Nat}{st:St}
@[go_sem] theorem Wo:mkN [] st=st:=(rfl)
@[go_sem] theorem UO:mkN (.slot i o::r) ⟨t,h⟩=mkN r ⟨(i,.os h.length)::t,h++[o]⟩:=(rfl)
@[go_sem] theorem UP:mkN (.cell i j o::r) ⟨t,h⟩=mkN r ⟨t,bO h i (Ko j h.length (av h i))++[o]⟩:=(rfl)
@[go_sem] theorem Wp:okN [] st=True:=(rfl)
@[go_sem] theorem UQ:okN (.slot i o::r) ⟨t,h⟩=(lk i t=.v (.slice none 0 0)∧Bi o∧okN r ⟨(i,.os h.length)::t,h++[o]⟩):=(rfl)
@[go_sem] theorem UR:okN (.cell i j o::r) ⟨t,h⟩=(NH j (av h i)∧Bi o∧okN r ⟨t,bO h i (Ko j h.length (av h i))++[o]⟩):=(rfl)
@[go_sem] theorem QH:Ko j n (.cells l)=.cells (l.set j (.os n)):=(rfl)
@[go_sem] theorem QI:NH j (.cells l)=(nth l j=some (.v (.slice none 0 0))):=(rfl)
theorem Hn (h:Bi o):(∃ k,o=.row k [])∨∃ k,o=.grid k []:=by
 cases o <;>simp only[Bi]at h
 ·subst h;exact .inl ⟨_,rfl⟩
 ·subst h;exact .inr ⟨_,rfl⟩
theorem t6:∀ (ns:List NLoc) (st0 st:St),NilS st0 st→okN ns st→NilS st0 (mkN ns st)
 | [],_,_,hn,_=>hn
 | .slot i o::r,st0,⟨t,h⟩,hn,hk=>t6 r st0 _ (.slot o hn hk.1 (Hn hk.2.1)) hk.2.2
 | .cell i j o::r,st0,⟨t,h⟩,hn,hk=>by
  refine t6 r st0 _ ?_ hk.2.2
  have h1:=hk.1
  cases ho:av h i with
  |cells l=>
   rw[ho]at h1
   simp only[NH,ef]at h1
   exact .cell o hn ho h1 (Hn hk.2.1)
  |_=>rw[ho]at h1;exact h1.elim
def nW (m:Nat)(ns:List NLoc)(js:List Nat)(st d:St):Prop:=st.h.length=m∧okN ns st∧m≤d.h.length∧Sub js m (mkN ns st) d
@[go_sem] theorem S7:nW m ns js ⟨t,h⟩ ⟨t2,h2⟩=(h.length=m∧okN ns ⟨t,h⟩∧m≤h2.length∧Sub js m (mkN ns ⟨t,h⟩) ⟨t2,h2⟩):=(rfl)
end
theorem ak {P:Program}{ro:Option Nat}{N:Nat}(c:Code):ay P ro N L0 c:=by
 induction c with
 |seq a b ha hb=>exact⟨ha,hb⟩
 |cond _ a b ha hb=>exact⟨ha,hb⟩
 |block id c hc=>
  cases c with
  |loop c=>exact fun _ _ _ _ _ h=>by cases h
  |rangeFunc f ps a b=>exact fun _ _ _ _ _ h=>by cases h
  |_=>exact hc
 |_=>trivial
section
variable {ρ σ τ:Type}
def pT:Nat→σ→Prop:=fun _ _=>True
@[go_sem] theorem Xf {step:Nat→σ→ρ⊕σ}{n i:Nat}{s:σ}:okI step pT n i s=True:=eq_true (jt _ _ _ fun _ _ _ _=>trivial)
def LCR (m:Nat)(ns:List NLoc)(js:List Nat)(D:Nat→σ→St)(step:Nat→σ→ρ⊕σ)(p:Nat→σ→Prop)(n:Nat)(s0:σ)(B:Prop)(exE:ρ→Ex)(outE:ρ→St)(st:St):LCon:=
 LC (nW m ns js st (D 0 s0)∧B∧okI step p n 0 s0) (ap step n 0 s0) exE outE (D n)
def LCV (m:Nat)(ns:List NLoc)(js:List Nat)(D:Nat→σ→St)(step:Nat→σ→ρ⊕σ)(p:Nat→σ→Prop)(n:Nat)(s0:σ)(exE:ρ→Ex)(outE:ρ→St)(st:St):LCon:=
 LC (nW m ns js st (D 0 s0)∧okI step p n 0 s0∧∀ s,ap step n 0 s0≠ .inr s) (ap step n 0 s0) exE outE (D n)
variable {m:Nat}{ns:List NLoc}{js:List Nat}{step:Nat→σ→ρ⊕σ}{p:Nat→σ→Prop}{n:Nat}{s0:σ}{B:Prop}{exE:ρ→Ex}{outE:ρ→St}{outN:σ→St}{st:St}{Q:Ex→St→Prop}
@[go_sem] theorem S8 {D:Nat→σ→St}:mW Q (some (LCR m ns js D step p n s0 B exE outE st))=((nW m ns js st (D 0 s0)∧B∧okI step p n 0 s0)∧(∀ x,ap step n 0 s0=.inl x→Q (exE x) (outE x))∧∀ s,ap step n 0 s0=.inr s→Q .normal (D n s)):=DQ
@[go_sem] theorem S9 {D:Nat→σ→St}:mW Q (some (LCV m ns js D step p n s0 exE outE st))=((nW m ns js st (D 0 s0)∧okI step p n 0 s0∧∀ s,ap step n 0 s0≠ .inr s)∧∀ x,ap step n 0 s0=.inl x→Q (exE x) (outE x)):=by
 refine DQ.trans ?_
 apply propext
 constructor
 ·rintro⟨h1,h2,_⟩;exact⟨h1,h2⟩
 ·rintro⟨h1,h2⟩;exact⟨h1,h2,fun s hs=>absurd hs (h1.2.2 s)⟩
def cR (step:Nat→σ→ρ⊕σ)(exE:ρ→Ex)(outE:ρ→St)(D:Nat→σ→St)(m id k:Nat)(s:σ):Ex→St→Prop
 | .normal,st=>mr D m k st (step k s)
 | .exit j,st=>ke exE outE m (bif Nat.beq j id then .normal else .exit j) st (step k s)
 | .ret,st=>ke exE outE m .ret st (step k s)
 | .pan x,st=>ke exE outE m (.pan x) st (step k s)
def cZ (d:St)(m id:Nat):Ex→St→Prop
 | .exit j,st=>bif Nat.beq j id then gA d m st else False
 |_,_=>False
variable {D:Nat→σ→St}{id k j:Nat}{s:σ}{x:Value}{d:St}{e e':Ex}
@[go_sem] theorem S_:cR step exE outE D m id k s .normal st=mr D m k st (step k s):=(rfl)
@[go_sem] theorem Wq:cR step exE outE D m id k s (.exit j) st=ke exE outE m (bif Nat.beq j id then .normal else .exit j) st (step k s):=(rfl)
@[go_sem] theorem Xg:cR step exE outE D m id k s .ret st=ke exE outE m .ret st (step k s):=(rfl)
@[go_sem] theorem Xh:cR step exE outE D m id k s (.pan x) st=ke exE outE m (.pan x) st (step k s):=(rfl)
@[go_sem] theorem Wr:cZ d m id (.exit j) st=bif Nat.beq j id then gA d m st else False:=(rfl)
@[congr] theorem US {st':St}(h:st=st')(he:e=e'):cR step exE outE D m id k s e st=cR step exE outE D m id k s e' st':=by rw[h,he]
@[congr] theorem UT {st':St}(h:st=st')(he:e=e'):cZ d m id e st=cZ d m id e' st':=by rw[h,he]
@[congr] theorem OY {r r':ρ⊕σ}(h:r=r')(he:e=e'):ke exE outE m e st r=ke exE outE m e' st r':=by rw[h,he]
end
section
variable {P:Program}{ρ σ τ:Type}{ts:Tis}{G:Cons}{ro:Option Nat}{N:Nat}{id:Nat}{c:Code}{C:St→Option LCon}{m:Nat}{ns:List NLoc}{js:List Nat}{step:Nat→σ→ρ⊕σ}{p:Nat→σ→Prop}{n:Nat}{s0:σ}{exE:ρ→Ex}{outE:ρ→St}{D:Nat→σ→St}
theorem Kp {n0:Nat}(hn0:n0=m){s:σ}{k:Nat}(hlt:k<n){I:Nat×σ→Prop}{μ:Nat×σ→Nat}{outN:σ→St}{pre:Prop}{run:ρ⊕σ}
  (hI:∀ s',step k s=.inr s'→I (k+1,s')∧μ (k+1,s') <μ (k,s)) (hx:∀ x,step k s=.inl x→run=.inl x):
  ∀ e st',cR step exE outE D m id k s e st'→pO (fun x:Nat×σ=>D x.1 x.2) I μ n0 (k,s) id (fun e st'=>∃ r js,(LC pre run exE outE outN).post r∧(LC pre run exE outE outN).ex r=e∧n0≤((LC pre run exE outE outN).out r).h.length∧Sub js n0 st' ((LC pre run exE outE outN).out r)) e st':=by
 subst hn0
 have hfin:∀ e st',ke exE outE n0 e st' (step k s)→∃ r js,(LC pre run exE outE outN).post r∧(LC pre run exE outE outN).ex r=e∧n0≤((LC pre run exE outE outN).out r).h.length∧Sub js n0 st' ((LC pre run exE outE outN).out r):=by
  intro e st' q
  cases hs:step k s with
  |inr s'=>rw[hs]at q;exact q.elim
  |inl x=>
   rw[hs]at q
   obtain⟨q2,js,q3,q4⟩:=q
   exact⟨.inl x,js,(hx x hs).symm,q2,q3,q4⟩
 intro e st' hq
 cases e with
 |normal=>
  change mr D n0 k st' (step k s)at hq
  cases hs:step k s with
  |inl x=>rw[hs]at hq;exact hq.elim
  |inr s'=>
   rw[hs]at hq
   obtain⟨js,q3,q4⟩:=hq
   obtain⟨i1,i2⟩:=hI s' hs
   exact⟨(k+1,s'),js,i1,i2,q3,q4⟩
 |exit j=>
  change ke exE outE n0 (bif Nat.beq j id then .normal else .exit j) st' (step k s)at hq
  show bif Nat.beq j id then _ else _
  cases hb:Nat.beq j id with
  |true=>rw[hb]at hq;exact hfin _ _ hq
  |false=>rw[hb]at hq;exact hfin _ _ hq
 |ret=>exact hfin _ _ hq
 |pan x=>exact hfin _ _ hq
theorem wj {B:Prop}(hm:P.follows .mixedOrders=true)(hts:ts.ok P)(hG:ConsOk P G)(hc:ci N c=true)(hC:∀ st,C st=some (LCR m ns js D step p n s0 B exE outE st))
  (h:B→∀ k s,k<n→p k s→∃ L Q,ay P ro N L c∧(∀ e st',Q e st'→cR step exE outE D m id k s e st')∧exec ts G L c (D k s) Q)
  (h2:B→∀ s,∃ Q,(∀ e st',Q e st'→cZ (D n s) m id e st')∧exec ts G L0 c (D n s) Q):iU P ro N id (.loop c) C:=by
 refine ru hm hts hG hc fun st lc hC' hp=>?_
 rw[hC st]at hC'
 cases hC'
 obtain⟨⟨hlen,hok,hle,hsub⟩,hB,h1⟩:=hp
 refine⟨Nat×σ,fun x=>D x.1 x.2,fun x=>x.1≤n∧okI step p (n - x.1) x.1 x.2∧ap step (n - x.1) x.1 x.2=ap step n 0 s0,fun x=>n - x.1,(0,s0),mkN ns st,js,⟨Nat.zero_le _,by simpa using h1,by simp⟩,t6 ns st st (.refl _) hok,by rw[hlen];exact hle,by rw[hlen];exact hsub,?_⟩
 rintro⟨k,s⟩ ⟨hk,hJ,hrun⟩
 simp only at hk hJ hrun
 rcases Nat.lt_or_ge k n with hlt|hge
 ·rw[show n - k=(n - k - 1)+1 by omega]at hrun hJ
  obtain⟨L,Q,hl,hQ,hex⟩:=h hB k s hlt hJ.1
  have hI:∀ s',step k s=.inr s'→okI step p (n - (k+1)) (k+1) s'∧ap step (n - (k+1)) (k+1) s'=ap step n 0 s0:=fun s' hs=>by
   have:=hJ.2 s' hs
   rw[show n - k - 1=n - (k+1) by omega]at this hrun
   simp only[ap,hs]at hrun
   exact⟨this,hrun⟩
  have hx:∀ x,step k s=.inl x→ap step n 0 s0=.inl x:=fun x hs=>by
   simp only[ap,hs]at hrun
   exact hrun.symm
  exact⟨L,Q,hl,fun e st' q=>Kp hlen hlt (fun s' hs=>⟨⟨hlt,hI s' hs⟩,by simp only;omega⟩) hx e st' (hQ e st' q),hex⟩
 ·have hkn:k=n:=by omega
  subst hkn
  obtain⟨Q,hQ,hex⟩:=h2 hB s
  refine⟨L0,Q,ak c,fun e st' q=>?_,hex⟩
  have hq:=hQ e st' q
  simp only[Nat.sub_self,ap]at hrun
  cases e with
  |exit j=>
   change bif Nat.beq j id then gA (D k s) m st' else False at hq
   show bif Nat.beq j id then _ else _
   cases hb:Nat.beq j id with
   |true=>
    rw[hb]at hq
    obtain⟨js,q3,q4⟩:=hq
    exact⟨.inr s,js,hrun,rfl,by rw[hlen];exact q3,by rw[hlen];exact q4⟩
   |false=>rw[hb]at hq;exact hq.elim
  |_=>exact hq.elim
theorem dB {B:Prop}(hm:P.follows .mixedOrders=true)(hts:ts.ok P)(hG:ConsOk P G)(hc:ci N c=true)(hC:∀ st,C st=some (LCR m ns js D step p n s0 B exE outE st))(M:Int)(hn:n=M.toNat)(hB:B→M<9223372036854775808)
  (h:B→∀ k s,k<n→p k s→IntKind.i64.wrap ((k:Int)+1)=((k+1:Nat):Int)→decide ((k:Int) <M)=true→∃ L,ay P ro N L c∧exec ts G L c (D k s) (cR step exE outE D m id k s))
  (h2:B→∀ s,decide ((n:Int) <M)=false→exec ts G L0 c (D n s) (cZ (D n s) m id)):iU P ro N id (.loop c) C:=by
 refine wj hm hts hG hc hC (fun b k s hlt hp=>?_) fun b s=>⟨_,fun _ _ q=>q,h2 b s ?_⟩
 ·obtain⟨L,h1,h3⟩:=h b k s hlt hp (G_ (hn▸hlt) (hB b)) (decide_eq_true (by omega))
  exact⟨L,_,h1,fun _ _ q=>q,h3⟩
 ·rw[decide_eq_false_iff_not];omega
theorem dL (E:Prop)(hm:P.follows .mixedOrders=true)(hts:ts.ok P)(hG:ConsOk P G)(hc:ci N c=true)(hC:∀ st,C st=some (LCR m ns js D step p n s0 True exE outE st))(M:Int)(hn:n=M.toNat)(hE:E→M<9223372036854775808)
  (h:E→∀ k s,k<n→p k s→IntKind.i64.wrap ((k:Int)+1)=((k+1:Nat):Int)→decide ((k:Int) <M)=true→∃ L,ay P ro N L c∧exec ts G L c (D k s) (cR step exE outE D m id k s))
  (h2:E→∀ s,decide ((n:Int) <M)=false→exec ts G L0 c (D n s) (cZ (D n s) m id)) (h3:¬E→∀ k s,exec ts G L0 c (D k s) fun _ _=>False):iU P ro N id (.loop c) C:=by
 by_cases hb:E
 ·refine wj hm hts hG hc hC (fun b k s hlt hp=>?_) fun b s=>⟨_,fun _ _ q=>q,h2 hb s ?_⟩
  ·obtain⟨L,h1,h4⟩:=h hb k s hlt hp (G_ (hn▸hlt) (hE hb)) (decide_eq_true (by omega))
   exact⟨L,_,h1,fun _ _ q=>q,h4⟩
  ·rw[decide_eq_false_iff_not];omega
 ·exact wj hm hts hG hc hC (fun _ k s _ _=>⟨L0,_,ak c,fun _ _ q=>q.elim,h3 hb k s⟩) fun _ s=>⟨_,fun _ _ q=>q.elim,h3 hb n s⟩
theorem ii (hm:P.follows .mixedOrders=true)(hts:ts.ok P)(hG:ConsOk P G)(hc:ci N c=true)(hC:∀ st,C st=some (LCV m ns js D step p n s0 exE outE st))
  (h:∀ k s,p k s→∃ L,ay P ro N L c∧exec ts G L c (D k s) (cR step exE outE D m id k s)):iU P ro N id (.loop c) C:=by
 refine ru hm hts hG hc fun st lc hC' hp=>?_
 rw[hC st]at hC'
 cases hC'
 obtain⟨⟨hlen,hok,hle,hsub⟩,h1,hno⟩:=hp
 refine⟨Nat×σ,fun x=>D x.1 x.2,fun x=>x.1≤n∧okI step p (n - x.1) x.1 x.2∧ap step (n - x.1) x.1 x.2=ap step n 0 s0,fun x=>n - x.1,(0,s0),mkN ns st,js,⟨Nat.zero_le _,by simpa using h1,by simp⟩,t6 ns st st (.refl _) hok,by rw[hlen];exact hle,by rw[hlen];exact hsub,?_⟩
 rintro⟨k,s⟩ ⟨hk,hJ,hrun⟩
 simp only at hk hJ hrun
 have hlt:k<n:=by
  rcases Nat.lt_or_ge k n with h|h
  ·exact h
  ·have hkn:k=n:=by omega
   subst hkn
   simp only[Nat.sub_self,ap]at hrun
   exact absurd hrun.symm (hno s)
 rw[show n - k=(n - k - 1)+1 by omega]at hrun hJ
 obtain⟨L,hl,hex⟩:=h k s hJ.1
 have hI:∀ s',step k s=.inr s'→okI step p (n - (k+1)) (k+1) s'∧ap step (n - (k+1)) (k+1) s'=ap step n 0 s0:=fun s' hs=>by
  have:=hJ.2 s' hs
  rw[show n - k - 1=n - (k+1) by omega]at this hrun
  simp only[ap,hs]at hrun
  exact⟨this,hrun⟩
 have hx:∀ x,step k s=.inl x→ap step n 0 s0=.inl x:=fun x hs=>by
  simp only[ap,hs]at hrun
  exact hrun.symm
 exact⟨L,_,hl,fun e st' q=>Kp hlen hlt (fun s' hs=>⟨⟨hlt,hI s' hs⟩,by simp only;omega⟩) hx e st' q,hex⟩
theorem g7 {α:Type}{l:List α}(h:l.length≤a7):(l.length:Int) <9223372036854775808:=by unfold a7 at h;omega
end
section
universe u
variable {α:Type u}{G:List SV→α→Prop}{r:List SV}
theorem b_ {k:Int→List SV→Option α}(h:∀ n l c,k n l=some c→G (.v (.int .i64 n)::l) c):∀ l c,pI k l=some c→G l c:=fun l c hc=>by
 obtain⟨n,r,rfl,h1⟩:=Qo hc;exact h n r c h1
theorem Cq {k:Bool→List SV→Option α}(h:∀ n l c,k n l=some c→G (.v (.bool n)::l) c):∀ l c,pB k l=some c→G l c:=fun l c hc=>by
 obtain⟨n,r,rfl,h1⟩:=Qp hc;exact h n r c h1
theorem cj {t:Tag}{k:List t.T→List SV→Option α}(h:∀ n l c,k n l=some c→G (.rs t n::l) c):∀ l c,pR t k l=some c→G l c:=fun l c hc=>by
 obtain⟨n,r,rfl,h1⟩:=Qq hc;exact h n r c h1
theorem aN {t:Tag}{k:t.T→List SV→Option α}(h:∀ n l c,k n l=some c→G (.agg (cellsOf t n)::l) c):∀ l c,pD t k l=some c→G l c:=fun l c hc=>by
 obtain⟨n,r,rfl,h1⟩:=rt hc;exact h n r c h1
theorem t7 {t:Tag}{k:t.T→List SV→Option α}(h:∀ n l c,k n l=some c→G (.ep (cellsOf t n) 0::l) c):∀ l c,pX t k l=some c→G l c:=fun l c hc=>by
 obtain⟨n,r,rfl,h1⟩:=Qr hc;exact h n r c h1
theorem aB {c0:α}(h:G [] c0):∀ l c,pE c0 l=some c→G l c:=fun l c hc=>by
 obtain⟨rfl,rfl⟩:=p8 hc;exact h
end
end Go.Sx
end
section
namespace Go.Sx
open Go.RowKit
section
universe u
variable {α:Type u}{G:List SV→α→Prop}
def apO:Option (List SV→Option α)→List SV→Option α
 |some q,r=>q r
 |none,_=>none
@[go_sem] theorem UU {q:List SV→Option α}{r:List SV}:apO (some q) r=q r:=(rfl)
@[go_sem] theorem UV {r:List SV}:apO (α:=α) none r=none:=(rfl)
def pFn (f:Nat)(k:List SV→Option (List SV→Option α)):List SV→Option α
 | .fn g [] caps::r=>bif Nat.beq g f then apO (k caps) r else none
 |_=>none
def pXF (f:Nat)(k:List SV→Option (List SV→Option α)):List SV→Option α
 | .ep [.fn g [] caps] 0::r=>bif Nat.beq g f then apO (k caps) r else none
 |_=>none
@[go_sem] theorem Xi {f g:Nat}{k:List SV→Option (List SV→Option α)}{caps r:List SV}:pFn f k (.fn g [] caps::r)=bif Nat.beq g f then apO (k caps) r else none:=(rfl)
@[go_sem] theorem Xj {f g:Nat}{k:List SV→Option (List SV→Option α)}{caps r:List SV}:pXF f k (.ep [.fn g [] caps] 0::r)=bif Nat.beq g f then apO (k caps) r else none:=(rfl)
theorem Ho {o:Option (List SV→Option α)}{r:List SV}{c:α}(h:apO o r=some c):∃ q,o=some q∧q r=some c:=by
 cases o with
 |none=>cases h
 |some q=>exact⟨q,rfl,h⟩
theorem kf {f:Nat}{k:List SV→Option (List SV→Option α)}(h:∀ caps q,k caps=some q→∀ l c,q l=some c→G (.fn f [] caps::l) c):∀ l c,pFn f k l=some c→G l c:=fun l c hc=>by
 unfold pFn at hc
 split at hc
 ·rename_i g caps r
  cases hb:Nat.beq g f with
  |false=>rw[hb]at hc;cases hc
  |true=>
   rw[hb]at hc
   obtain⟨q,h1,h2⟩:=Ho hc
   have:=Nat.eq_of_beq_eq_true hb
   subst this
   exact h caps q h1 r c h2
 ·cases hc
theorem Hq {f:Nat}{k:List SV→Option (List SV→Option α)}(h:∀ caps q,k caps=some q→∀ l c,q l=some c→G (.ep [.fn f [] caps] 0::l) c):∀ l c,pXF f k l=some c→G l c:=fun l c hc=>by
 unfold pXF at hc
 split at hc
 ·rename_i g caps r
  cases hb:Nat.beq g f with
  |false=>rw[hb]at hc;cases hc
  |true=>
   rw[hb]at hc
   obtain⟨q,h1,h2⟩:=Ho hc
   have:=Nat.eq_of_beq_eq_true hb
   subst this
   exact h caps q h1 r c h2
 ·cases hc
end
theorem uU {α:Type 1}{G:List SV→α→Prop}{t:Tag}{k:List t.T→List SV→Option α}(h:∀ n l c,k n l=some c→G (.ep [.rs t n] 0::l) c):∀ l c,pXR t k l=some c→G l c:=fun l c hc=>by
 obtain⟨n,r,rfl,h1⟩:=NG hc;exact h n r c h1
theorem cl3 {p:Prop}(h:p:=by((repeat' (first|with_reducible refine And.intro ?_ ?_|((with_reducible show _≠_);first|assumption|omega|(simp_all [aX,bf];done) |grind) |with_reducible intro _)) <;>(first|done|assumption|rfl|omega|exact cl|(simp_all only[J2,J3,Sum.inr.injEq,Sum.inl.injEq,forall_eq',forall_const,true_imp_iff,cond_true,cond_false,and_self];done)))):p:=h
def wl (k:Tag)(K:List k.T→Option HCon):List Ob→Option HCon
 | [.row k' l] =>if h:k'=k then K (h▸l)else none
 |_=>none
@[go_sem] theorem Ws {k:Tag}{K:List k.T→Option HCon}{l:List k.T}:wl k K [.row k l]=K l:=by simp[wl]
theorem pl {k:Tag}{K:List k.T→Option HCon}{h:List Ob}{c:HCon}(hh:wl k K h=some c):∃ l,h=[.row k l]∧K l=some c:=by
 unfold wl at hh;split at hh
 ·split at hh
  ·rename_i e;subst e;exact⟨_,rfl,hh⟩
  ·cases hh
 ·cases hh
end Go.Sx
end
section
namespace Go.Sx
open Go.Proofs
set_option maxRecDepth 100000
set_option linter.unusedSimpArgs false
theorem czl {p:Prop}(h:p:=by first|(simp only[*,cond_true,cond_false,Bool.not_true,Bool.not_false,go_sem,Nat.reduceBEq,Nat.reduceLeDiff,Nat.reduceLT,decide_true,Nat.reduceAdd,Nat.reduceSub,Nat.reduceMul,Int.reduceLE,Int.reduceLT,Int.reduceToNat,Int.reduceNeg,reduceCtorEq];done) |fail):p:=h
theorem ij {p:Prop}(h:p:=by(first|done|(repeat' (first|with_reducible refine And.intro ?_ ?_|((with_reducible show _≠_);first|assumption|omega|(simp_all [aX,bf];done) |grind) |with_reducible intro _)) <;>(first|done|exact Empty.elim ‹Empty› |assumption|rfl|omega|decide|exact fk [0] |exact czl|(simp only[*,cond_true,cond_false,Bool.not_true,Bool.not_false,go_sem,Nat.reduceBEq,Nat.reduceLeDiff,Nat.reduceLT,decide_true,Nat.reduceAdd,Nat.reduceSub,Nat.reduceMul,Int.reduceLE,Int.reduceLT,Int.reduceToNat,Int.reduceNeg,reduceCtorEq];(repeat' (first|with_reducible refine And.intro ?_ ?_|((with_reducible show _≠_);first|assumption|omega|(simp_all [aX,bf];done) |grind) |with_reducible intro _)) <;>(first|done|assumption|rfl|omega|decide|exact fk [0] |(simp_all [aX,bf];done))) |(simp_all [okI,aX,bf];done) |(simp_all [aX,bf];(first|done|exact fk2 [0])) |exact fk2 [0]))):p:=h
theorem fv {p:Prop}(h:p:=by simp only[go_sem,Nat.reduceBEq,Nat.reduceLeDiff,Nat.reduceLT,decide_true,Nat.reduceAdd,Nat.reduceSub,Nat.reduceMul,Int.reduceLE,Int.reduceLT,Int.reduceToNat,Int.reduceNeg,reduceCtorEq,hc,hw];all_goals exact ij):p:=h
theorem fw {p:Prop}(h:p:=by simp only[go_sem,Nat.reduceBEq,Nat.reduceLeDiff,Nat.reduceLT,decide_true,Nat.reduceAdd,Nat.reduceSub,Nat.reduceMul,Int.reduceLE,Int.reduceLT,Int.reduceToNat,Int.reduceNeg,reduceCtorEq,hc];all_goals exact ij):p:=h
def gY (x:Int):Bool:=(x !=x)
@[go_sem] def qs:List SV→Option Con:=(pI fun x=>(pE (.det True (.v (.bool (gY x))))))
theorem wm:FnOk Tryz.prog 113 qs:=by
 have hG:ConsOk Tryz.prog (mkG [] []):=aC cg0 cg0
 refine aI [.o] mixed ax hG (fn:=Tryz.f113) (c:=aa Tryz.f113) (by kernel_rfl) (by kernel_rfl) (by kernel_rfl) (by kernel_rfl) (b_ fun x=>(aB (fun hp=>?_)))
 dsimp only[aD]at hp
 refine⟨Nat.le_of_ble_eq_true rfl,L0,ak _,?_⟩
 ·unfold aa Tryz.f113
  try unfold gY
  simp only[go_sem,Nat.reduceBEq,Nat.reduceLeDiff,Nat.reduceLT,decide_true,Nat.reduceAdd,Nat.reduceSub,Nat.reduceMul,Int.reduceLE,Int.reduceLT,Int.reduceToNat,Int.reduceNeg,reduceCtorEq]
  all_goals exact cl
def aP (x:Int)(y:Int):Int:=(bif(gY x)then(bif(gY y)then 0 else(-1))else(bif(gY y)then 1 else(bif(decide (x<y))then(-1)else(bif(decide (x > y))then 1 else 0))))
@[go_sem] def c9:List SV→Option Con:=(pI fun x=>(pI fun y=>(pE (.det True (.v (.int .i64 (aP x y)))))))
theorem dI:FnOk Tryz.prog 70 c9:=by
 have hG:ConsOk Tryz.prog (mkG [(113,qs)] []):=aC (cgc wm cg0) cg0
 refine aI [.o] mixed ax hG (fn:=Tryz.f70) (c:=aa Tryz.f70) (by kernel_rfl) (by kernel_rfl) (by kernel_rfl) (by kernel_rfl) (b_ fun x=>(b_ fun y=>(aB (fun hp=>?_))))
 dsimp only[aD]at hp
 refine⟨Nat.le_of_ble_eq_true rfl,L0,ak _,?_⟩
 ·unfold aa Tryz.f70
  try unfold aP
  simp only[go_sem,Nat.reduceBEq,Nat.reduceLeDiff,Nat.reduceLT,decide_true,Nat.reduceAdd,Nat.reduceSub,Nat.reduceMul,Int.reduceLE,Int.reduceLT,Int.reduceToNat,Int.reduceNeg,reduceCtorEq]
  all_goals exact cl
def d9 (n:Int):Int:=(bif(decide (n<0))then(IntKind.u64.wrap (0 - (IntKind.u64.wrap n)))else(IntKind.u64.wrap n))
@[go_sem] def oI:List SV→Option Con:=(pI fun n=>(pE (.det True (.v (.int .u64 (d9 n))))))
theorem t8:FnOk Tryz.prog 176 oI:=by
 have hG:ConsOk Tryz.prog (mkG [] []):=aC cg0 cg0
 refine aI [.o] mixed ax hG (fn:=Tryz.f176) (c:=aa Tryz.f176) (by kernel_rfl) (by kernel_rfl) (by kernel_rfl) (by kernel_rfl) (b_ fun n=>(aB (fun hp=>?_)))
 dsimp only[aD]at hp
 refine⟨Nat.le_of_ble_eq_true rfl,L0,ak _,?_⟩
 ·unfold aa Tryz.f176
  try unfold d9
  simp only[go_sem,Nat.reduceBEq,Nat.reduceLeDiff,Nat.reduceLT,decide_true,Nat.reduceAdd,Nat.reduceSub,Nat.reduceMul,Int.reduceLE,Int.reduceLT,Int.reduceToNat,Int.reduceNeg,reduceCtorEq]
  all_goals exact cl
def aY (a:Ratio):Int:=(bif(((((decide (a.d<1)) ||(decide (a.d > 1073741824))) ||(decide (a.n< (-1073741824)))) ||(decide (a.n > 1073741824))) ||(((Ir (Int.toNat (d9 a.n)) (Int.toNat (IntKind.u64.wrap a.d)):Nat):Int) !=1))then 120 else 0)
def tb (a:Ratio):Prop:=(((((decide (a.d<1)) ||(decide (a.d > 1073741824))) ||(decide (a.n< (-1073741824)))) ||(decide (a.n > 1073741824)))=false→(0≤(d9 a.n)∧0≤(IntKind.u64.wrap a.d)))
theorem zc (n:Int):0≤IntKind.u64.wrap n:=by
 simp[IntKind.wrap,IntKind.bits,IntKind.signed];omega
theorem wn (n:Int):0≤d9 n:=by
 unfold d9
 cases decide (n<0) <;>exact zc _
theorem zd (a:Ratio):tb a:=fun _=>⟨wn _,zc _⟩
@[go_sem] def lL:List SV→Option Con:=(pD .ratio fun a=>(pE (.det True (.v (.int .i64 (aY a))))))
theorem nX:FnOk Tryz.prog 152 lL:=by
 have hG:ConsOk Tryz.prog (mkG [(175,C83),(176,oI)] []):=aC (cgc QE (cgc t8 cg0)) cg0
 refine aI [.o] mixed ax hG (fn:=Tryz.f152) (c:=aa Tryz.f152) (by kernel_rfl) (by kernel_rfl) (by kernel_rfl) (by kernel_rfl) (aN fun a=>(aB (fun hp=>?_)))
 dsimp only[aD]at hp
 have hp:=zd a
 unfold tb at hp
 refine⟨Nat.le_of_ble_eq_true rfl,L0,ak _,?_⟩
 ·unfold aa Tryz.f152
  try unfold aY
  simp only[go_sem,Nat.reduceBEq,Nat.reduceLeDiff,Nat.reduceLT,decide_true,Nat.reduceAdd,Nat.reduceSub,Nat.reduceMul,Int.reduceLE,Int.reduceLT,Int.reduceToNat,Int.reduceNeg,reduceCtorEq,C83]
  all_goals exact cl
def eP (a:Ratio)(b:Ratio):Int×Int:=(bif(((aY a) !=0) ||((aY b) !=0))then(0,120)else((aP (IntKind.i64.wrap (a.n*b.d)) (IntKind.i64.wrap (b.n*a.d))),0))
@[go_sem] def rv:List SV→Option Con:=(pD .ratio fun a=>(pD .ratio fun b=>(pE (.det True (.tup [.v (.int .i64 ((eP a b).1)),.v (.int .i64 ((eP a b).2))])))))
theorem uV:FnOk Tryz.prog 151 rv:=by
 have hG:ConsOk Tryz.prog (mkG [(70,c9),(152,lL)] []):=aC (cgc dI (cgc nX cg0)) cg0
 refine aI [.o,.o] mixed ax hG (fn:=Tryz.f151) (c:=aa Tryz.f151) (by kernel_rfl) (by kernel_rfl) (by kernel_rfl) (by kernel_rfl) (aN fun a=>(aN fun b=>(aB (fun hp=>?_))))
 dsimp only[aD]at hp
 refine⟨Nat.le_of_ble_eq_true rfl,L0,ak _,?_⟩
 ·unfold aa Tryz.f151
  try unfold eP
  simp only[go_sem,Nat.reduceBEq,Nat.reduceLeDiff,Nat.reduceLT,decide_true,Nat.reduceAdd,Nat.reduceSub,Nat.reduceMul,Int.reduceLE,Int.reduceLT,Int.reduceToNat,Int.reduceNeg,reduceCtorEq]
  all_goals exact cl
def Ax (ok:Bool)(e:Int):Unit:=(bif(!ok)then default else())
def ce (ok:Bool)(e:Int):Bool:=(bif(!ok)then false else true)
@[go_sem] def mM:List SV→Option Con:=(pB fun ok=>(pI fun e=>(pE (.may (ce ok e) (.tup []) (.iface 169 (.int .i64 e))))))
theorem pm:FnOk Tryz.prog 75 mM:=by
 have hG:ConsOk Tryz.prog (mkG [] []):=aC cg0 cg0
 refine aI [] mixed ax hG (fn:=Tryz.f75) (c:=aa Tryz.f75) (by kernel_rfl) (by kernel_rfl) (by kernel_rfl) (by kernel_rfl) (Cq fun ok=>(b_ fun e=>(aB (fun hp=>?_))))
 dsimp only[aD]at hp
 refine⟨Nat.le_of_ble_eq_true rfl,L0,ak _,?_⟩
 ·unfold aa Tryz.f75
  try unfold Ax
  try unfold ce
  simp only[go_sem,Nat.reduceBEq,Nat.reduceLeDiff,Nat.reduceLT,decide_true,Nat.reduceAdd,Nat.reduceSub,Nat.reduceMul,Int.reduceLE,Int.reduceLT,Int.reduceToNat,Int.reduceNeg,reduceCtorEq]
  all_goals exact cl
@[go_sem] def bI (l_:List Int)(k_0:Nat)(s_0:Unit):Unit⊕Unit:=(bif(decide ((l_.getD (Int.toNat ((k_0:Int)+1)) (0:Int)) < (l_.getD (Int.toNat (IntKind.i64.wrap (((k_0:Int)+1) - 1))) (0:Int))))then .inl ()else .inr ())
def gB (l_:List Int)(k_0:Nat)(s_0:Unit):Prop:=(l_.length≤a7→((0≤((k_0:Int)+1)∧((k_0:Int)+1) < (l_.length:Int))∧(0≤(IntKind.i64.wrap (((k_0:Int)+1) - 1))∧(IntKind.i64.wrap (((k_0:Int)+1) - 1)) < (l_.length:Int))))
def aH (l_:List Int):Bool:=(match ap (bI l_) (l_.length - 1) 0 ()with| .inl x_0_0=>false| .inr s_0=>true)
def qt (l_:List Int):Prop:=okI (bI l_) (gB l_) (l_.length - 1) 0 ()
theorem wo (l_:List Int):qt l_:=jt _ _ _ fun j s h1 h2 hm=>by
 unfold a7 at hm
 rw[bv (by omega) (by omega)]
 omega
@[go_sem] def ju:List SV→Option Con:=(pR .int fun l_=>(pE (.det True (.v (.bool (aH l_))))))
theorem ld:FnOk Tryz.prog 117 ju:=by
 have hG:ConsOk Tryz.prog (mkG [] []):=aC cg0 cg0
 refine aI [.o] mixed ax hG (fn:=Tryz.f117) (c:=aa Tryz.f117) (by kernel_rfl) (by kernel_rfl) (by kernel_rfl) (by kernel_rfl) (cj fun l_=>(aB (fun hp=>?_)))
 dsimp only[aD]at hp
 have hp:=wo l_
 unfold qt at hp
 refine⟨Nat.le_of_ble_eq_true rfl,(fun id st=>bif Nat.beq id 0 then some (LC (ρ:=Unit) (σ:=Unit) (lk 0 st.t=.rs .int l_∧lk 3 st.t=.v (.int .i64 1)∧st.h=[]∧okI (bI l_) (gB l_) (l_.length - 1) 0 ()) (ap (bI l_) (l_.length - 1) 0 ()) (fun _=>.ret) (fun x_0_0=>⟨[(2,.v (.bool false))],[]⟩) (fun s_0=>⟨[],[]⟩))else none),?_,?_⟩
 ·unfold aa Tryz.f117
  simp only[ay,true_and,and_true]
  ·refine we mixed ax hG (by kernel_rfl) fun st lc hC hp=>?_
   simp only[go_sem,Nat.reduceBEq,Option.some.injEq]at hC
   subst hC
   obtain⟨t,h⟩:=st
   dsimp only[LC]at hp
   obtain⟨e0_0,e0_1,rfl,hok0⟩:=hp
   refine⟨_,_,_,(bI l_),(gB l_),(l_.length - 1),(),_,_,_,(fun k_0 s_0=>⟨[(0,.rs .int l_),(3,.v (.int .i64 ((k_0:Int)+1)))],[]⟩),[],rfl,hok0,Nat.le_refl _,?_,fun k_0 s_0 hk0 hp0=>?_⟩
   ·simp only[go_sem,Nat.reduceBEq,Nat.reduceLeDiff,Nat.reduceLT,decide_true,Nat.reduceAdd,Nat.reduceSub,Nat.reduceMul,Int.reduceLE,Int.reduceLT,Int.reduceToNat,Int.reduceNeg,reduceCtorEq,e0_0,e0_1]
    all_goals (first|done|decide|(repeat' (first|refine And.intro ?_ ?_|rfl|decide)))
   refine⟨L0,?_,?_⟩
   ·simp only[ay,and_self,true_and,and_true]
   ·by_cases hb0:l_.length≤a7
    rotate_left
    ·simp only[go_sem,Nat.reduceBEq,Nat.reduceLeDiff,Nat.reduceLT,decide_true,Nat.reduceAdd,Nat.reduceSub,Nat.reduceMul,Int.reduceLE,Int.reduceLT,Int.reduceToNat,Int.reduceNeg,reduceCtorEq,hb0]
    ·by_cases hlt0:k_0< (l_.length - 1)
     ·have hw0:IntKind.i64.wrap (((k_0:Nat):Int)+1+1)=((k_0+1:Nat):Int)+1:=by(have hbb:=hb0;have hll:=hlt0;try unfold a7 at hbb);rw[bv (by omega) (by omega)];omega
      have hq0:=hp0 hlt0
      unfold gB at hq0
      replace hq0:=hq0 hb0
      try simp only[hw0,Int.toNat_natCast]at hq0
      have hc0:decide (((k_0:Int)+1) < (l_.length:Int))=true:=by simp only[decide_eq_true_eq];omega
      simp only[go_sem,Nat.reduceBEq,Nat.reduceLeDiff,Nat.reduceLT,decide_true,Nat.reduceAdd,Nat.reduceSub,Nat.reduceMul,Int.reduceLE,Int.reduceLT,Int.reduceToNat,Int.reduceNeg,reduceCtorEq,bI,hc0,hw0]
      all_goals exact cl
     ·have hc0:decide (((k_0:Int)+1) < (l_.length:Int))=false:=by simp only[decide_eq_false_iff_not];omega
      simp only[go_sem,Nat.reduceBEq,Nat.reduceLeDiff,Nat.reduceLT,decide_true,Nat.reduceAdd,Nat.reduceSub,Nat.reduceMul,Int.reduceLE,Int.reduceLT,Int.reduceToNat,Int.reduceNeg,reduceCtorEq,hc0]
      all_goals exact cl2
 ·unfold aa Tryz.f117
  try unfold aH
  simp only[go_sem,Nat.reduceBEq,Nat.reduceLeDiff,Nat.reduceLT,decide_true,Nat.reduceAdd,Nat.reduceSub,Nat.reduceMul,Int.reduceLE,Int.reduceLT,Int.reduceToNat,Int.reduceNeg,reduceCtorEq]
  all_goals exact cl
def bZ (i:Int)(n:Int):Bool:=((decide (i≥0))&&(decide (i<n)))
@[go_sem] def kg:List SV→Option Con:=(pI fun i=>(pI fun n=>(pE (.det True (.v (.bool (bZ i n)))))))
theorem mN:FnOk Tryz.prog 119 kg:=by
 have hG:ConsOk Tryz.prog (mkG [] []):=aC cg0 cg0
 refine aI [.o] mixed ax hG (fn:=Tryz.f119) (c:=aa Tryz.f119) (by kernel_rfl) (by kernel_rfl) (by kernel_rfl) (by kernel_rfl) (b_ fun i=>(b_ fun n=>(aB (fun hp=>?_))))
 dsimp only[aD]at hp
 refine⟨Nat.le_of_ble_eq_true rfl,L0,ak _,?_⟩
 ·unfold aa Tryz.f119
  try unfold bZ
  simp only[go_sem,Nat.reduceBEq,Nat.reduceLeDiff,Nat.reduceLT,decide_true,Nat.reduceAdd,Nat.reduceSub,Nat.reduceMul,Int.reduceLE,Int.reduceLT,Int.reduceToNat,Int.reduceNeg,reduceCtorEq]
  all_goals exact cl
def eZ (x:Ratio×Ratio):Bool:=(((((eP x.1 x.2).2==0)&&(decide (x.1.n≥0)))&&(decide ((eP x.1 x.2).1≤0)))&&(decide (x.2.n≤x.2.d)))
@[go_sem] def rz:List SV→Option Con:=(pD .ratio2 fun x=>(pE (.det True (.v (.bool (eZ x))))))
theorem xx:FnOk Tryz.prog 149 rz:=by
 have hG:ConsOk Tryz.prog (mkG [(151,rv)] []):=aC (cgc uV cg0) cg0
 refine aI [.o] mixed ax hG (fn:=Tryz.f149) (c:=aa Tryz.f149) (by kernel_rfl) (by kernel_rfl) (by kernel_rfl) (by kernel_rfl) (aN fun x=>(aB (fun hp=>?_)))
 dsimp only[aD]at hp
 refine⟨Nat.le_of_ble_eq_true rfl,L0,ak _,?_⟩
 ·unfold aa Tryz.f149
  try unfold eZ
  simp only[go_sem,Nat.reduceBEq,Nat.reduceLeDiff,Nat.reduceLT,decide_true,Nat.reduceAdd,Nat.reduceSub,Nat.reduceMul,Int.reduceLE,Int.reduceLT,Int.reduceToNat,Int.reduceNeg,reduceCtorEq]
  all_goals exact cl
def aU (i:Int)(x:Reach):Bool:=(bif(decide (i > 0))then((((((bZ x.up i)&&(aH ([1,x.delay,16])))&&(aH ([0,x.siphon,x.cap,1073741824])))&&(aH ([0,x.siphon,x.bank,1099511627776])))&&(aH ([0,x.evap.lo,x.evap.hi,1073741824])))&&(eZ x.seep))else((((((x.up==(-1))&&(aH ([1,x.delay,16])))&&(aH ([0,x.siphon,x.cap,1073741824])))&&(aH ([0,x.siphon,x.bank,1099511627776])))&&(aH ([0,x.evap.lo,x.evap.hi,1073741824])))&&(eZ x.seep)))
@[go_sem] def rA:List SV→Option Con:=(pI fun i=>(pD .reach fun x=>(pE (.det True (.v (.bool (aU i x)))))))
theorem xy:FnOk Tryz.prog 118 rA:=by
 have hG:ConsOk Tryz.prog (mkG [(117,fun l=>ju (cn [.sl .int] l)),(119,kg),(149,rz)] []):=aC (cgc (ld.norm [.sl .int]) (cgc mN (cgc xx cg0))) cg0
 refine aI [.o] mixed ax hG (fn:=Tryz.f118) (c:=aa Tryz.f118) (by kernel_rfl) (by kernel_rfl) (by kernel_rfl) (by kernel_rfl) (b_ fun i=>(aN fun x=>(aB (fun hp=>?_))))
 dsimp only[aD]at hp
 refine⟨Nat.le_of_ble_eq_true rfl,L0,ak _,?_⟩
 ·unfold aa Tryz.f118
  try unfold aU
  simp only[go_sem,Nat.reduceBEq,Nat.reduceLeDiff,Nat.reduceLT,decide_true,Nat.reduceAdd,Nat.reduceSub,Nat.reduceMul,Int.reduceLE,Int.reduceLT,Int.reduceToNat,Int.reduceNeg,reduceCtorEq]
  all_goals exact cl
def kh (a0:District)(a1:Right):Bool:=(bif(((!(bZ a1.farm (a0.farms.length:Int))) ||(!(bZ a1.reach (a0.reaches.length:Int)))) ||(!(aH ([0,a1.since,a1.to,(IntKind.i64.wrap (a0.hours - 1))]))))then false else(bif(a1.kind==1)then((((a1.reach==0)&&(aH ([0,a1.rank,1048576])))&&(aH ([1,a1.litres,1073741824])))&&(aH ([1,a1.length,a1.every,a0.hours])))else(bif(a1.kind==2)then((a1.name==a1.name)&&((a1.kind==a1.kind)&&((a1.farm==a1.farm)&&((a1.reach==a1.reach)&&((a1.rank==0)&&((a1.litres==0)&&((a1.since==0)&&((a1.to==(IntKind.i64.wrap (a0.hours - 1)))&&((a1.every==0)&&(a1.length==0))))))))))else(bif(a1.kind==3)then((a1.name==a1.name)&&((a1.kind==a1.kind)&&((a1.farm==a1.farm)&&((a1.reach==a1.reach)&&((a1.rank==0)&&((a1.litres==0)&&((a1.since==a1.since)&&((a1.to==a1.to)&&((a1.every==0)&&(a1.length==0))))))))))else false))))
@[go_sem] def rB:List SV→Option Con:=(pD .district fun a0=>(pD .right fun a1=>(pE (.det True (.v (.bool (kh a0 a1)))))))
theorem xz:FnOk Tryz.prog 120 rB:=by
 have hG:ConsOk Tryz.prog (mkG [(117,fun l=>ju (cn [.sl .int] l)),(119,kg)] []):=aC (cgc (ld.norm [.sl .int]) (cgc mN cg0)) cg0
 refine aI [.o] mixed ax hG (fn:=Tryz.f120) (c:=aa Tryz.f120) (by kernel_rfl) (by kernel_rfl) (by kernel_rfl) (by kernel_rfl) (aN fun a0=>(aN fun a1=>(aB (fun hp=>?_))))
 dsimp only[aD]at hp
 refine⟨Nat.le_of_ble_eq_true rfl,L0,ak _,?_⟩
 ·unfold aa Tryz.f120
  try unfold kh
  simp only[go_sem,Nat.reduceBEq,Nat.reduceLeDiff,Nat.reduceLT,decide_true,Nat.reduceAdd,Nat.reduceSub,Nat.reduceMul,Int.reduceLE,Int.reduceLT,Int.reduceToNat,Int.reduceNeg,reduceCtorEq]
  all_goals exact cl
@[go_sem] def cC (a0:District)(a1:Int)(k_0:Nat)(s_0:Unit):Unit⊕Unit:=(bif(ce (aU (k_0:Int) (a0.reaches.getD k_0 (default:Reach))) a1)then .inr ()else .inl ())
@[go_sem] def da (a0:District)(a1:Int)(k_1:Nat)(s_1:Unit):Unit⊕Unit:=(bif(ce (aH ([0,(a0.crops.getD k_1 (default:Crop)).need,1048576])) a1)then .inr ()else .inl ())
@[go_sem] def cD (a0:District)(a1:Int)(k_2:Nat)(s_2:Unit):Unit⊕Unit:=(bif(decide ((a0.farms.getD k_2 (default:Farm)).area > 0))then(bif(ce (((bZ ((a0.farms.getD k_2 (default:Farm)).crop) (a0.crops.length:Int))&&(bZ ((a0.farms.getD k_2 (default:Farm)).reach) (a0.reaches.length:Int)))&&(aH ([0,(a0.farms.getD k_2 (default:Farm)).area,1048576]))) a1)then .inr ()else .inl ())else(bif(ce ((((a0.farms.getD k_2 (default:Farm)).crop==(-1))&&(bZ ((a0.farms.getD k_2 (default:Farm)).reach) (a0.reaches.length:Int)))&&(aH ([0,(a0.farms.getD k_2 (default:Farm)).area,1048576]))) a1)then .inr ()else .inl ()))
@[go_sem] def dx (a0:District)(a1:Int)(k_3:Nat)(s_3:Unit):Unit⊕Unit:=(bif(ce (kh a0 (a0.rights.getD k_3 (default:Right))) a1)then .inr ()else .inl ())
@[go_sem] def dy (a0:District)(a1:Int)(k_4:Nat)(s_4:Unit):Unit⊕Unit:=(bif(ce (((bZ ((a0.duties.getD k_4 (default:Duty)).farm) (a0.farms.length:Int))&&(bZ ((a0.duties.getD k_4 (default:Duty)).reach) (a0.reaches.length:Int)))&&(aH ([0,(a0.duties.getD k_4 (default:Duty)).due,a0.hours]))) a1)then .inr ()else .inl ())
def zf (a0:District)(a1:Int):Unit:=(bif(ce (((aH ([1,a0.hours,4096]))&&(aH ([0,a0.tank.start,a0.tank.cap,1099511627776])))&&(decide ((a0.reaches.length:Int) > 0))) a1)then(match ap (cC a0 a1) a0.reaches.length 0 ()with| .inl x_0_0=>default| .inr s_0=>(match ap (da a0 a1) a0.crops.length 0 ()with| .inl x_1_0=>default| .inr s_1=>(match ap (cD a0 a1) a0.farms.length 0 ()with| .inl x_2_0=>default| .inr s_2=>(match ap (dx a0 a1) a0.rights.length 0 ()with| .inl x_3_0=>default| .inr s_3=>(match ap (dy a0 a1) a0.duties.length 0 ()with| .inl x_4_0=>default| .inr s_4=>())))))else default)
def db (a0:District)(a1:Int):Bool:=(bif(ce (((aH ([1,a0.hours,4096]))&&(aH ([0,a0.tank.start,a0.tank.cap,1099511627776])))&&(decide ((a0.reaches.length:Int) > 0))) a1)then(match ap (cC a0 a1) a0.reaches.length 0 ()with| .inl x_0_0=>false| .inr s_0=>(match ap (da a0 a1) a0.crops.length 0 ()with| .inl x_1_0=>false| .inr s_1=>(match ap (cD a0 a1) a0.farms.length 0 ()with| .inl x_2_0=>false| .inr s_2=>(match ap (dx a0 a1) a0.rights.length 0 ()with| .inl x_3_0=>false| .inr s_3=>(match ap (dy a0 a1) a0.duties.length 0 ()with| .inl x_4_0=>false| .inr s_4=>true)))))else false)
@[go_sem] def pn:List SV→Option Con:=(pD .district fun a0=>(pI fun a1=>(pE (.may (db a0 a1) (.tup []) (.iface 169 (.int .i64 a1))))))
theorem uW:FnOk Tryz.prog 76 pn:=by
 have hG:ConsOk Tryz.prog (mkG [(75,mM),(117,fun l=>ju (cn [.sl .int] l)),(118,rA),(119,kg),(120,fun l=>rB (cn [.st .district,.st .right] l))] []):=aC (cgc pm (cgc (ld.norm [.sl .int]) (cgc xy (cgc mN (cgc (xz.norm [.st .district,.st .right]) cg0))))) cg0
 refine aI [] mixed ax hG (fn:=Tryz.f76) (c:=aa Tryz.f76) (by kernel_rfl) (by kernel_rfl) (by kernel_rfl) (by kernel_rfl) (aN fun a0=>(b_ fun a1=>(aB (fun hp=>?_))))
 dsimp only[aD]at hp
 refine⟨Nat.le_of_ble_eq_true rfl,(fun id st=>bif Nat.beq id 0 then some (LCR (ρ:=Unit) (σ:=Unit) 1 [] [0] (fun k_0 s_0=>⟨[(1,.v (.int .i64 a1)),(2,.ptr 0 0),(38,.rs .reach a0.reaches),(39,.v (.int .i64 (a0.reaches.length:Int))),(40,.v (.int .i64 (k_0:Int)))],[.cells (cellsOf .district a0)]⟩) (cC a0 a1) pT a0.reaches.length () (a0.reaches.length≤a7) (fun _=>.pan (.iface 169 (.int .i64 a1))) (fun x_0_0=>⟨[],[.dead]⟩) st)else bif Nat.beq id 2 then some (LCR (ρ:=Unit) (σ:=Unit) 1 [] [0] (fun k_1 s_1=>⟨[(1,.v (.int .i64 a1)),(2,.ptr 0 0),(52,.rs .crop a0.crops),(53,.v (.int .i64 (a0.crops.length:Int))),(54,.v (.int .i64 (k_1:Int)))],[.cells (cellsOf .district a0)]⟩) (da a0 a1) pT a0.crops.length () (a0.crops.length≤a7) (fun _=>.pan (.iface 169 (.int .i64 a1))) (fun x_1_0=>⟨[],[.dead]⟩) st)else bif Nat.beq id 4 then some (LCR (ρ:=Unit) (σ:=Unit) 1 [] [0] (fun k_2 s_2=>⟨[(1,.v (.int .i64 a1)),(2,.ptr 0 0),(66,.rs .farm a0.farms),(67,.v (.int .i64 (a0.farms.length:Int))),(68,.v (.int .i64 (k_2:Int)))],[.cells (cellsOf .district a0)]⟩) (cD a0 a1) pT a0.farms.length () (a0.farms.length≤a7) (fun _=>.pan (.iface 169 (.int .i64 a1))) (fun x_2_0=>⟨[],[.dead]⟩) st)else bif Nat.beq id 6 then some (LCR (ρ:=Unit) (σ:=Unit) 1 [] [0] (fun k_3 s_3=>⟨[(1,.v (.int .i64 a1)),(2,.ptr 0 0),(103,.rs .right a0.rights),(104,.v (.int .i64 (a0.rights.length:Int))),(105,.v (.int .i64 (k_3:Int)))],[.cells (cellsOf .district a0)]⟩) (dx a0 a1) pT a0.rights.length () (a0.rights.length≤a7) (fun _=>.pan (.iface 169 (.int .i64 a1))) (fun x_3_0=>⟨[],[.dead]⟩) st)else bif Nat.beq id 8 then some (LCR (ρ:=Unit) (σ:=Unit) 1 [] [0] (fun k_4 s_4=>⟨[(1,.v (.int .i64 a1)),(2,.ptr 0 0),(116,.rs .duty a0.duties),(117,.v (.int .i64 (a0.duties.length:Int))),(118,.v (.int .i64 (k_4:Int)))],[.cells (cellsOf .district a0)]⟩) (dy a0 a1) pT a0.duties.length () (a0.duties.length≤a7) (fun _=>.pan (.iface 169 (.int .i64 a1))) (fun x_4_0=>⟨[],[.dead]⟩) st)else none),?_,?_⟩
 ·unfold aa Tryz.f76
  simp only[ay,true_and,and_true]
  refine⟨?_,?_,?_,?_,?_⟩
  ·refine dB mixed ax hG (by kernel_rfl) (fun _=>rfl) (a0.reaches.length:Int) rfl g7 (fun hb0 k_0 s_0 hlt0 _ hw hc=>⟨L0,ak _,?_⟩) (fun hb0 s_0 hc=>?_)
   ·exact fv
   ·exact fw
  ·refine dB mixed ax hG (by kernel_rfl) (fun _=>rfl) (a0.crops.length:Int) rfl g7 (fun hb1 k_1 s_1 hlt1 _ hw hc=>⟨L0,ak _,?_⟩) (fun hb1 s_1 hc=>?_)
   ·exact fv
   ·exact fw
  ·refine dB mixed ax hG (by kernel_rfl) (fun _=>rfl) (a0.farms.length:Int) rfl g7 (fun hb2 k_2 s_2 hlt2 _ hw hc=>⟨L0,ak _,?_⟩) (fun hb2 s_2 hc=>?_)
   ·exact fv
   ·exact fw
  ·refine dB mixed ax hG (by kernel_rfl) (fun _=>rfl) (a0.rights.length:Int) rfl g7 (fun hb3 k_3 s_3 hlt3 _ hw hc=>⟨L0,ak _,?_⟩) (fun hb3 s_3 hc=>?_)
   ·exact fv
   ·exact fw
  ·refine dB mixed ax hG (by kernel_rfl) (fun _=>rfl) (a0.duties.length:Int) rfl g7 (fun hb4 k_4 s_4 hlt4 _ hw hc=>⟨L0,ak _,?_⟩) (fun hb4 s_4 hc=>?_)
   ·exact fv
   ·exact fw
 ·unfold aa Tryz.f76
  try unfold zf
  try unfold db
  simp only[go_sem,Nat.reduceBEq,Nat.reduceLeDiff,Nat.reduceLT,decide_true,Nat.reduceAdd,Nat.reduceSub,Nat.reduceMul,Int.reduceLE,Int.reduceLT,Int.reduceToNat,Int.reduceNeg,reduceCtorEq]
  all_goals exact cl
def bt (d:District):Int:=(bif(ce (((((decide ((d.reaches.length:Int)≤64))&&(decide ((d.farms.length:Int)≤600)))&&(decide ((d.crops.length:Int)≤32)))&&(decide ((d.rights.length:Int)≤256)))&&(decide ((d.duties.length:Int)≤256))) 2)then(bif(db d 191)then 0 else 191)else 2)
@[go_sem] def nY:List SV→Option Con:=(pD .district fun d=>(pE (.det True (.v (.int .i64 (bt d))))))
theorem qu:FnOk Tryz.prog 42 nY:=by
 have hG:ConsOk Tryz.prog (mkG [(75,mM),(76,fun l=>pn (cn [.st .district,.o] l))] []):=aC (cgc pm (cgc (uW.norm [.st .district,.o]) cg0)) cg0
 refine Qw Kj [.o] mixed ax hG (fn:=Tryz.f42) (c0:=Iq (aa Tryz.f42)) (c1:=Gd (Gd (aa Tryz.f42))) (i1:=regI (Iq (Gd (aa Tryz.f42)))) (o1:=UD 0 (Iq (Gd (aa Tryz.f42)))) (o2:=UD 1 (Iq (Gd (aa Tryz.f42)))) (t3:=3) (q:=2) (tys:= #[]) (by kernel_rfl) (by kernel_rfl) (by kernel_rfl) (by refine⟨?_,?_,?_⟩ <;>kernel_rfl) (by refine⟨?_,?_,?_⟩ <;>kernel_rfl) (Nat.le_of_ble_eq_true rfl) (by kernel_rfl) (by kernel_rfl) (aN fun d=>(aB (fun hp=>?_)))
 dsimp only[aD]at hp
 refine⟨Nat.le_of_ble_eq_true rfl,L0,L0,1,?_,?_,?_⟩
 ·unfold aa Tryz.f42
  simp only[Iq,ay,and_self,true_and,and_true]
 ·unfold aa Tryz.f42
  simp only[Gd]
  simp only[ay,and_self,true_and,and_true]
 ·unfold aa Tryz.f42
  try unfold bt
  simp only[go_sem,Nat.reduceBEq,Nat.reduceLeDiff,Nat.reduceLT,decide_true,Nat.reduceAdd,Nat.reduceSub,Nat.reduceMul,Int.reduceLE,Int.reduceLT,Int.reduceToNat,Int.reduceNeg,reduceCtorEq,Iq,Gd,QB]
  all_goals exact cl
def kl (x:Order):Int:=x.hour
@[go_sem] def iV:List SV→Option Con:=(pD .order fun x=>(pE (.det True (.v (.int .i64 (kl x))))))
theorem rC:FnOk Tryz.prog 79 iV:=by
 have hG:ConsOk Tryz.prog (mkG [] []):=aC cg0 cg0
 refine aI [.o] mixed ax hG (fn:=Tryz.f79) (c:=aa Tryz.f79) (by kernel_rfl) (by kernel_rfl) (by kernel_rfl) (by kernel_rfl) (aN fun x=>(aB (fun hp=>?_)))
 dsimp only[aD]at hp
 refine⟨Nat.le_of_ble_eq_true rfl,L0,ak _,?_⟩
 ·unfold aa Tryz.f79
  try unfold kl
  simp only[go_sem,Nat.reduceBEq,Nat.reduceLeDiff,Nat.reduceLT,decide_true,Nat.reduceAdd,Nat.reduceSub,Nat.reduceMul,Int.reduceLE,Int.reduceLT,Int.reduceToNat,Int.reduceNeg,reduceCtorEq]
  all_goals exact cl
def nZ (x:Order):Int:=(bif x.outlet then 1 else 0)
@[go_sem] def lf:List SV→Option Con:=(pD .order fun x=>(pE (.det True (.v (.int .i64 (nZ x))))))
theorem uX:FnOk Tryz.prog 80 lf:=by
 have hG:ConsOk Tryz.prog (mkG [] []):=aC cg0 cg0
 refine aI [.o] mixed ax hG (fn:=Tryz.f80) (c:=aa Tryz.f80) (by kernel_rfl) (by kernel_rfl) (by kernel_rfl) (by kernel_rfl) (aN fun x=>(aB (fun hp=>?_)))
 dsimp only[aD]at hp
 refine⟨Nat.le_of_ble_eq_true rfl,L0,ak _,?_⟩
 ·unfold aa Tryz.f80
  try unfold nZ
  simp only[go_sem,Nat.reduceBEq,Nat.reduceLeDiff,Nat.reduceLT,decide_true,Nat.reduceAdd,Nat.reduceSub,Nat.reduceMul,Int.reduceLE,Int.reduceLT,Int.reduceToNat,Int.reduceNeg,reduceCtorEq]
  all_goals exact cl
def km (x:Order):Int:=x.index
@[go_sem] def iW:List SV→Option Con:=(pD .order fun x=>(pE (.det True (.v (.int .i64 (km x))))))
theorem rD:FnOk Tryz.prog 81 iW:=by
 have hG:ConsOk Tryz.prog (mkG [] []):=aC cg0 cg0
 refine aI [.o] mixed ax hG (fn:=Tryz.f81) (c:=aa Tryz.f81) (by kernel_rfl) (by kernel_rfl) (by kernel_rfl) (by kernel_rfl) (aN fun x=>(aB (fun hp=>?_)))
 dsimp only[aD]at hp
 refine⟨Nat.le_of_ble_eq_true rfl,L0,ak _,?_⟩
 ·unfold aa Tryz.f81
  try unfold km
  simp only[go_sem,Nat.reduceBEq,Nat.reduceLeDiff,Nat.reduceLT,decide_true,Nat.reduceAdd,Nat.reduceSub,Nat.reduceMul,Int.reduceLE,Int.reduceLT,Int.reduceToNat,Int.reduceNeg,reduceCtorEq]
  all_goals exact cl
end Go.Sx
end
section
namespace Go.Sx
open Go.Proofs
set_option maxRecDepth 100000
set_option linter.unusedSimpArgs false
theorem zg {p:Prop}(h:p:=by(first|done|(repeat' (first|with_reducible refine And.intro ?_ ?_|((with_reducible show _≠_);first|assumption|omega|(simp_all [aX,bf];done) |grind) |with_reducible intro _)) <;>(first|done|exact Empty.elim ‹Empty› |assumption|rfl|omega|decide|exact fk [] |exact czl|(simp only[*,cond_true,cond_false,Bool.not_true,Bool.not_false,go_sem,Nat.reduceBEq,Nat.reduceLeDiff,Nat.reduceLT,decide_true,Nat.reduceAdd,Nat.reduceSub,Nat.reduceMul,Int.reduceLE,Int.reduceLT,Int.reduceToNat,Int.reduceNeg,reduceCtorEq];(repeat' (first|with_reducible refine And.intro ?_ ?_|((with_reducible show _≠_);first|assumption|omega|(simp_all [aX,bf];done) |grind) |with_reducible intro _)) <;>(first|done|assumption|rfl|omega|decide|exact fk [] |(simp_all [aX,bf];done))) |(simp_all [okI,aX,bf];done) |(simp_all [aX,bf];(first|done|exact fk2 [])) |exact fk2 []))):p:=h
theorem DV {p:Prop}(h:p:=by simp only[go_sem,Nat.reduceBEq,Nat.reduceLeDiff,Nat.reduceLT,decide_true,Nat.reduceAdd,Nat.reduceSub,Nat.reduceMul,Int.reduceLE,Int.reduceLT,Int.reduceToNat,Int.reduceNeg,reduceCtorEq];all_goals exact zg):p:=h
def ko (x:Range)(most:Int):Bool:=(((decide (x.lo≥0))&&(decide (x.lo≤x.hi)))&&(decide (x.hi≤most)))
@[go_sem] def pq:List SV→Option Con:=(pD .range fun x=>(pI fun most=>(pE (.det True (.v (.bool (ko x most)))))))
theorem uY:FnOk Tryz.prog 122 pq:=by
 have hG:ConsOk Tryz.prog (mkG [] []):=aC cg0 cg0
 refine aI [.o] mixed ax hG (fn:=Tryz.f122) (c:=aa Tryz.f122) (by kernel_rfl) (by kernel_rfl) (by kernel_rfl) (by kernel_rfl) (aN fun x=>(b_ fun most=>(aB (fun hp=>?_))))
 dsimp only[aD]at hp
 refine⟨Nat.le_of_ble_eq_true rfl,L0,ak _,?_⟩
 ·unfold aa Tryz.f122
  try unfold ko
  simp only[go_sem,Nat.reduceBEq,Nat.reduceLeDiff,Nat.reduceLT,decide_true,Nat.reduceAdd,Nat.reduceSub,Nat.reduceMul,Int.reduceLE,Int.reduceLT,Int.reduceToNat,Int.reduceNeg,reduceCtorEq]
  all_goals exact cl
def lg (n:Int)(lo:Int)(hi:Int):Bool:=((decide (n≥lo))&&(decide (n≤hi)))
@[go_sem] def rE:List SV→Option Con:=(pI fun n=>(pI fun lo=>(pI fun hi=>(pE (.det True (.v (.bool (lg n lo hi))))))))
theorem uZ:FnOk Tryz.prog 124 rE:=by
 have hG:ConsOk Tryz.prog (mkG [] []):=aC cg0 cg0
 refine aI [.o] mixed ax hG (fn:=Tryz.f124) (c:=aa Tryz.f124) (by kernel_rfl) (by kernel_rfl) (by kernel_rfl) (by kernel_rfl) (b_ fun n=>(b_ fun lo=>(b_ fun hi=>(aB (fun hp=>?_)))))
 dsimp only[aD]at hp
 refine⟨Nat.le_of_ble_eq_true rfl,L0,ak _,?_⟩
 ·unfold aa Tryz.f124
  try unfold lg
  simp only[go_sem,Nat.reduceBEq,Nat.reduceLeDiff,Nat.reduceLT,decide_true,Nat.reduceAdd,Nat.reduceSub,Nat.reduceMul,Int.reduceLE,Int.reduceLT,Int.reduceToNat,Int.reduceNeg,reduceCtorEq]
  all_goals exact cl
def iE (a:Ratio):Bool:=(((aY a) ==0)&&(lg a.n 0 a.d))
@[go_sem] def rF:List SV→Option Con:=(pD .ratio fun a=>(pE (.det True (.v (.bool (iE a))))))
theorem xA:FnOk Tryz.prog 150 rF:=by
 have hG:ConsOk Tryz.prog (mkG [(124,rE),(152,lL)] []):=aC (cgc uZ (cgc nX cg0)) cg0
 refine aI [.o] mixed ax hG (fn:=Tryz.f150) (c:=aa Tryz.f150) (by kernel_rfl) (by kernel_rfl) (by kernel_rfl) (by kernel_rfl) (aN fun a=>(aB (fun hp=>?_)))
 dsimp only[aD]at hp
 refine⟨Nat.le_of_ble_eq_true rfl,L0,ak _,?_⟩
 ·unfold aa Tryz.f150
  try unfold iE
  simp only[go_sem,Nat.reduceBEq,Nat.reduceLeDiff,Nat.reduceLT,decide_true,Nat.reduceAdd,Nat.reduceSub,Nat.reduceMul,Int.reduceLE,Int.reduceLT,Int.reduceToNat,Int.reduceNeg,reduceCtorEq]
  all_goals exact cl
def fQ (a:Ratio×Ratio):Bool:=(bif((!(iE a.1)) ||(!(iE a.2)))then false else(((eP a.1 a.2).2==0)&&(decide ((eP a.1 a.2).1≤0))))
@[go_sem] def qv:List SV→Option Con:=(pD .ratio2 fun a=>(pE (.det True (.v (.bool (fQ a))))))
theorem wp:FnOk Tryz.prog 123 qv:=by
 have hG:ConsOk Tryz.prog (mkG [(150,rF),(151,rv)] []):=aC (cgc xA (cgc uV cg0)) cg0
 refine aI [.o] mixed ax hG (fn:=Tryz.f123) (c:=aa Tryz.f123) (by kernel_rfl) (by kernel_rfl) (by kernel_rfl) (by kernel_rfl) (aN fun a=>(aB (fun hp=>?_)))
 dsimp only[aD]at hp
 refine⟨Nat.le_of_ble_eq_true rfl,L0,ak _,?_⟩
 ·unfold aa Tryz.f123
  try unfold fQ
  simp only[go_sem,Nat.reduceBEq,Nat.reduceLeDiff,Nat.reduceLT,decide_true,Nat.reduceAdd,Nat.reduceSub,Nat.reduceMul,Int.reduceLE,Int.reduceLT,Int.reduceToNat,Int.reduceNeg,reduceCtorEq]
  all_goals exact cl
def dX (r:Reach)(n:Int):Int:=(bif((!(ko r.evap 1073741824)) ||(!(fQ r.seep)))then 210 else(bif(!(lg n 0 1073741824))then 1 else 0))
@[go_sem] def rG:List SV→Option Con:=(pD .reach fun r=>(pI fun n=>(pE (.det True (.v (.int .i64 (dX r n)))))))
theorem xB:FnOk Tryz.prog 82 rG:=by
 have hG:ConsOk Tryz.prog (mkG [(122,pq),(123,qv),(124,rE)] []):=aC (cgc uY (cgc wp (cgc uZ cg0))) cg0
 refine aI [.o] mixed ax hG (fn:=Tryz.f82) (c:=aa Tryz.f82) (by kernel_rfl) (by kernel_rfl) (by kernel_rfl) (by kernel_rfl) (aN fun r=>(b_ fun n=>(aB (fun hp=>?_))))
 dsimp only[aD]at hp
 refine⟨Nat.le_of_ble_eq_true rfl,L0,ak _,?_⟩
 ·unfold aa Tryz.f82
  try unfold dX
  simp only[go_sem,Nat.reduceBEq,Nat.reduceLeDiff,Nat.reduceLT,decide_true,Nat.reduceAdd,Nat.reduceSub,Nat.reduceMul,Int.reduceLE,Int.reduceLT,Int.reduceToNat,Int.reduceNeg,reduceCtorEq]
  all_goals exact cl
def lh (n:Int)(d:Int):Int:=(IntKind.i64.wrap (Int.tdiv (IntKind.i64.wrap (n - (Int.tmod (IntKind.i64.wrap ((Int.tmod n d)+d)) d))) d))
def nq (n:Int)(d:Int):Prop:=(d≠0∧(d≠0∧d≠0))
@[go_sem] def u4:List SV→Option Con:=(pI fun n=>(pI fun d=>(pE (.det (nq n d) (.v (.int .i64 (lh n d)))))))
theorem Ay:FnOk Tryz.prog 153 u4:=by
 have hG:ConsOk Tryz.prog (mkG [] []):=aC cg0 cg0
 refine aI [.o] mixed ax hG (fn:=Tryz.f153) (c:=aa Tryz.f153) (by kernel_rfl) (by kernel_rfl) (by kernel_rfl) (by kernel_rfl) (b_ fun n=>(b_ fun d=>(aB (fun hp=>?_))))
 dsimp only[aD]at hp
 unfold nq at hp
 refine⟨Nat.le_of_ble_eq_true rfl,L0,ak _,?_⟩
 ·unfold aa Tryz.f153
  try unfold lh
  simp only[go_sem,Nat.reduceBEq,Nat.reduceLeDiff,Nat.reduceLT,decide_true,Nat.reduceAdd,Nat.reduceSub,Nat.reduceMul,Int.reduceLE,Int.reduceLT,Int.reduceToNat,Int.reduceNeg,reduceCtorEq]
  all_goals exact cl
def dM (a:Ratio)(n:Int):Int×Int×Int:=(bif((aY a) !=0)then(0,0,(aY a))else(bif((decide (n< (-1073741824))) ||(decide (n > 1073741824)))then(0,0,1)else((lh (IntKind.i64.wrap (a.n*n)) a.d),(IntKind.i64.wrap (0 - (lh (IntKind.i64.wrap ((IntKind.i64.wrap (0 - a.n))*n)) a.d))),0)))
def tf (a:Ratio)(n:Int):Prop:=(((aY a) !=0)=false→(((decide (n< (-1073741824))) ||(decide (n > 1073741824)))=false→((nq (IntKind.i64.wrap (a.n*n)) a.d)∧(nq (IntKind.i64.wrap ((IntKind.i64.wrap (0 - a.n))*n)) a.d))))
theorem Az {a:Ratio}(h:(aY a !=0)=false):1≤a.d:=by
 unfold aY at h
 by_cases hd:a.d<1
 ·simp[hd]at h
 ·omega
theorem zh (a:Ratio)(n:Int):tf a n:=fun h _=>by
 have:=Az h
 exact⟨⟨by omega,by omega,by omega⟩,⟨by omega,by omega,by omega⟩⟩
@[go_sem] def tg:List SV→Option Con:=(pD .ratio fun a=>(pI fun n=>(pE (.det True (.tup [.v (.int .i64 ((dM a n).1)),.v (.int .i64 ((dM a n).2.1)),.v (.int .i64 ((dM a n).2.2))])))))
theorem zi:FnOk Tryz.prog 125 tg:=by
 have hG:ConsOk Tryz.prog (mkG [(152,lL),(153,u4)] []):=aC (cgc nX (cgc Ay cg0)) cg0
 refine aI [.o,.o,.o] mixed ax hG (fn:=Tryz.f125) (c:=aa Tryz.f125) (by kernel_rfl) (by kernel_rfl) (by kernel_rfl) (by kernel_rfl) (aN fun a=>(b_ fun n=>(aB (fun hp=>?_))))
 dsimp only[aD]at hp
 have hp:=zh a n
 unfold tf at hp
 refine⟨Nat.le_of_ble_eq_true rfl,L0,ak _,?_⟩
 ·unfold aa Tryz.f125
  try unfold dM
  simp only[go_sem,Nat.reduceBEq,Nat.reduceLeDiff,Nat.reduceLT,decide_true,Nat.reduceAdd,Nat.reduceSub,Nat.reduceMul,Int.reduceLE,Int.reduceLT,Int.reduceToNat,Int.reduceNeg,reduceCtorEq]
  all_goals exact cl
def dN (r:Reach)(v:Int):Range:=(bif(v==0)then({ lo:=0,hi:=0}:Range)else({ lo:=(if(IntKind.i64.wrap (r.evap.lo+(dM r.seep.1 v).1)) <v then(IntKind.i64.wrap (r.evap.lo+(dM r.seep.1 v).1))else v),hi:=(if(IntKind.i64.wrap (r.evap.hi+(dM r.seep.2 v).2.1)) <v then(IntKind.i64.wrap (r.evap.hi+(dM r.seep.2 v).2.1))else v)}:Range))
@[go_sem] def th:List SV→Option Con:=(pD .reach fun r=>(pI fun v=>(pE (.det True (.agg (cellsOf .range (dN r v)))))))
theorem zj:FnOk Tryz.prog 83 th:=by
 have hG:ConsOk Tryz.prog (mkG [(125,tg)] []):=aC (cgc zi cg0) cg0
 refine aI [.st .range] mixed ax hG (fn:=Tryz.f83) (c:=aa Tryz.f83) (by kernel_rfl) (by kernel_rfl) (by kernel_rfl) (by kernel_rfl) (aN fun r=>(b_ fun v=>(aB (fun hp=>?_))))
 dsimp only[aD]at hp
 refine⟨Nat.le_of_ble_eq_true rfl,L0,ak _,?_⟩
 ·unfold aa Tryz.f83
  try unfold dN
  simp only[go_sem,Nat.reduceBEq,Nat.reduceLeDiff,Nat.reduceLT,decide_true,Nat.reduceAdd,Nat.reduceSub,Nat.reduceMul,Int.reduceLE,Int.reduceLT,Int.reduceToNat,Int.reduceNeg,reduceCtorEq]
  all_goals exact cl
def p9 (r:Reach)(v:Int):Int×Int:=(bif((dX r v) !=0)then(0,(dX r v))else((IntKind.i64.wrap (v - (dN r v).hi)),0))
def lM (v:Int)(r:Reach):Int:=(IntKind.i64.wrap (v - (dN r v).hi))
@[go_sem] def qw:List SV→Option Con:=(pI fun v=>(pX .reach fun r=>(pE (.det True (.v (.int .i64 (lM v r)))))))
theorem wq:FnOk Tryz.prog 132 qw:=by
 have hG:ConsOk Tryz.prog (mkG [(83,th)] []):=aC (cgc zj cg0) cg0
 refine aI [.o] mixed ax hG (fn:=Tryz.f132) (c:=aa Tryz.f132) (by kernel_rfl) (by kernel_rfl) (by kernel_rfl) (by kernel_rfl) (b_ fun v=>(t7 fun r=>(aB (fun hp=>?_))))
 dsimp only[aD]at hp
 refine⟨Nat.le_of_ble_eq_true rfl,L0,ak _,?_⟩
 ·unfold aa Tryz.f132
  try unfold lM
  simp only[go_sem,Nat.reduceBEq,Nat.reduceLeDiff,Nat.reduceLT,decide_true,Nat.reduceAdd,Nat.reduceSub,Nat.reduceMul,Int.reduceLE,Int.reduceLT,Int.reduceToNat,Int.reduceNeg,reduceCtorEq]
  all_goals exact cl
def dh (v:Int)(r:Reach)(w:Int):Bool:=(decide ((lM v r) > w))
@[go_sem] def pr:List SV→Option Con:=(pI fun v=>(pXF 132 (pX .reach fun r=>(pE ((pX .int fun w=>(pE (.det True (.v (.bool (dh v r w)))))))))))
theorem u5:FnOk Tryz.prog 164 pr:=by
 have hG:ConsOk Tryz.prog (mkG [(132,qw)] []):=aC (cgc wq cg0) cg0
 refine aI [.o] mixed ax hG (fn:=Tryz.f164) (c:=aa Tryz.f164) (by kernel_rfl) (by kernel_rfl) (by kernel_rfl) (by kernel_rfl) (b_ fun v=>(Hq (t7 fun r=>(aB ((t7 fun w=>(aB (fun hp=>?_))))))))
 dsimp only[aD]at hp
 refine⟨Nat.le_of_ble_eq_true rfl,L0,ak _,?_⟩
 ·unfold aa Tryz.f164
  try unfold dh
  simp only[go_sem,Nat.reduceBEq,Nat.reduceLeDiff,Nat.reduceLT,decide_true,Nat.reduceAdd,Nat.reduceSub,Nat.reduceMul,Int.reduceLE,Int.reduceLT,Int.reduceToNat,Int.reduceNeg,reduceCtorEq]
  all_goals exact cl
@[go_sem] def ga (r:Reach)(w:Int)(k_0:Nat)(s_0:Int×Int):Int⊕(Int×Int):=(bif(decide (s_0.1<s_0.2))then(bif(!(dh (IntKind.i64.wrap (E7 .u64 (IntKind.u64.wrap (IntKind.i64.wrap (s_0.1+s_0.2))) 1)) r w))then .inr ((IntKind.i64.wrap ((IntKind.i64.wrap (E7 .u64 (IntKind.u64.wrap (IntKind.i64.wrap (s_0.1+s_0.2))) 1))+1)),s_0.2)else .inr (s_0.1,(IntKind.i64.wrap (E7 .u64 (IntKind.u64.wrap (IntKind.i64.wrap (s_0.1+s_0.2))) 1))))else .inl s_0.1)
def oJ (n:Int)(r:Reach)(w:Int):Int:=(match ap (ga r w) 64 0 (0,n)with| .inl x_0_0=>x_0_0| .inr s_0=>default)
def lN (n:Int)(r:Reach)(w:Int):Prop:=(∀ z_,ap (ga r w) 64 0 (0,n)≠ .inr z_)
@[go_sem] def tj:List SV→Option Con:=(pI fun n=>(pFn 164 (pXF 132 (pX .reach fun r=>(pE ((pX .int fun w=>(pE ((pE (.det (lN n r w) (.v (.int .i64 (oJ n r w))))))))))))))
theorem zk:FnOk Tryz.prog 163 tj:=by
 have hG:ConsOk Tryz.prog (mkG [(164,pr)] []):=aC (cgc u5 cg0) cg0
 refine aI [.o] mixed ax hG (fn:=Tryz.f163) (c:=aa Tryz.f163) (by kernel_rfl) (by kernel_rfl) (by kernel_rfl) (by kernel_rfl) (b_ fun n=>(kf (Hq (t7 fun r=>(aB ((t7 fun w=>(aB ((aB (fun hp=>?_)))))))))))
 dsimp only[aD]at hp
 unfold lN at hp
 refine⟨Nat.le_of_ble_eq_true rfl,(fun id st=>bif Nat.beq id 0 then some (LCV (ρ:=Int) (σ:=(Int×Int)) 0 [] [] (fun k_0 s_0=>⟨[(1,.fn 164 [] [.ep [.fn 132 [] [.ep (cellsOf .reach r) 0]] 0,.ep [.v (.int .i64 w)] 0]),(5,.v (.int .i64 s_0.1)),(6,.v (.int .i64 s_0.2))],[]⟩) (ga r w) pT 64 (0,n) (fun _=>.normal) (fun x_0_0=>⟨[(5,.v (.int .i64 x_0_0))],[]⟩) st)else none),?_,?_⟩
 ·unfold aa Tryz.f163
  simp only[ay,true_and,and_true]
  ·refine ii mixed ax hG (by kernel_rfl) (fun _=>rfl) fun k_0 s_0 _=>⟨L0,ak _,?_⟩
   ·exact DV
 ·unfold aa Tryz.f163
  try unfold oJ
  simp only[go_sem,Nat.reduceBEq,Nat.reduceLeDiff,Nat.reduceLT,decide_true,Nat.reduceAdd,Nat.reduceSub,Nat.reduceMul,Int.reduceLE,Int.reduceLT,Int.reduceToNat,Int.reduceNeg,reduceCtorEq]
  all_goals exact cl
def bP (w:Int)(r:Reach):Int:=(oJ 1073741825 r w)
def n8 (w:Int)(r:Reach):Prop:=(lN 1073741825 r w)
@[go_sem] def rH:List SV→Option Con:=(pI fun w=>(pFn 132 (pX .reach fun r=>(pE ((pE (.det (n8 w r) (.v (.int .i64 (bP w r))))))))))
theorem xC:FnOk Tryz.prog 131 rH:=by
 have hG:ConsOk Tryz.prog (mkG [(163,tj)] []):=aC (cgc zk cg0) cg0
 refine aI [.o] mixed ax hG (fn:=Tryz.f131) (c:=aa Tryz.f131) (by kernel_rfl) (by kernel_rfl) (by kernel_rfl) (by kernel_rfl) (b_ fun w=>(kf (t7 fun r=>(aB ((aB (fun hp=>?_)))))))
 dsimp only[aD]at hp
 unfold n8 at hp
 refine⟨Nat.le_of_ble_eq_true rfl,L0,ak _,?_⟩
 ·unfold aa Tryz.f131
  try unfold bP
  simp only[go_sem,Nat.reduceBEq,Nat.reduceLeDiff,Nat.reduceLT,decide_true,Nat.reduceAdd,Nat.reduceSub,Nat.reduceMul,Int.reduceLE,Int.reduceLT,Int.reduceToNat,Int.reduceNeg,reduceCtorEq]
  all_goals exact cl
def bw (r:Reach)(w:Int):Int×Bool×Int:=(bif((dX r w) !=0)then(0,false,(dX r w))else(bif(decide ((bP (IntKind.i64.wrap (w - 1)) r) > 1073741824))then(0,false,0)else((bP (IntKind.i64.wrap (w - 1)) r),true,0)))
def je (r:Reach)(w:Int):Prop:=(((dX r w) !=0)=false→(n8 (IntKind.i64.wrap (w - 1)) r))
@[go_sem] def lO:List SV→Option Con:=(pD .reach fun r=>(pI fun w=>(pE (.det (je r w) (.tup [.v (.int .i64 ((bw r w).1)),.v (.bool ((bw r w).2.1)),.v (.int .i64 ((bw r w).2.2))])))))
theorem rI:FnOk Tryz.prog 99 lO:=by
 have hG:ConsOk Tryz.prog (mkG [(82,rG),(131,rH)] []):=aC (cgc xB (cgc xC cg0)) cg0
 refine aI [.o,.o,.o] mixed ax hG (fn:=Tryz.f99) (c:=aa Tryz.f99) (by kernel_rfl) (by kernel_rfl) (by kernel_rfl) (by kernel_rfl) (aN fun r=>(b_ fun w=>(aB (fun hp=>?_))))
 dsimp only[aD]at hp
 unfold je at hp
 refine⟨Nat.le_of_ble_eq_true rfl,L0,ak _,?_⟩
 ·unfold aa Tryz.f99
  try unfold bw
  simp only[go_sem,Nat.reduceBEq,Nat.reduceLeDiff,Nat.reduceLT,decide_true,Nat.reduceAdd,Nat.reduceSub,Nat.reduceMul,Int.reduceLE,Int.reduceLT,Int.reduceToNat,Int.reduceNeg,reduceCtorEq]
  all_goals exact cl
def am (x:Reach)(w:Int):Int×Bool:=(bif((w==0) ||(decide (w > 1073741824)))then(0,(w==0))else(bif(!(bw x w).2.1)then(0,false)else((if(bw x w).1<x.siphon then x.siphon else(bw x w).1),true)))
def iF (x:Reach)(w:Int):Prop:=(((w==0) ||(decide (w > 1073741824)))=false→(je x w))
@[go_sem] def pt:List SV→Option Con:=(pD .reach fun x=>(pI fun w=>(pE (.det (iF x w) (.tup [.v (.int .i64 ((am x w).1)),.v (.bool ((am x w).2))])))))
theorem u6:FnOk Tryz.prog 96 pt:=by
 have hG:ConsOk Tryz.prog (mkG [(99,lO)] []):=aC (cgc rI cg0) cg0
 refine aI [.o,.o] mixed ax hG (fn:=Tryz.f96) (c:=aa Tryz.f96) (by kernel_rfl) (by kernel_rfl) (by kernel_rfl) (by kernel_rfl) (aN fun x=>(b_ fun w=>(aB (fun hp=>?_))))
 dsimp only[aD]at hp
 unfold iF at hp
 refine⟨Nat.le_of_ble_eq_true rfl,L0,ak _,?_⟩
 ·unfold aa Tryz.f96
  try unfold am
  simp only[go_sem,Nat.reduceBEq,Nat.reduceLeDiff,Nat.reduceLT,decide_true,Nat.reduceAdd,Nat.reduceSub,Nat.reduceMul,Int.reduceLE,Int.reduceLT,Int.reduceToNat,Int.reduceNeg,reduceCtorEq]
  all_goals exact cl
end Go.Sx
end
section
namespace Go.Sx
open Go.Proofs
set_option maxRecDepth 100000
set_option linter.unusedSimpArgs false
abbrev iX:SV:=.ls [.fn 79 [] [],.fn 80 [] [],.fn 81 [] []]
open Classical in
noncomputable def nr:List SV→Option Con:=fun l=>if l=[iX]then some (.det True (.fn 121 [] [.ep [iX] 0]))else none
theorem AA:FnOk Tryz.prog 78 nr:=by
 have hG:ConsOk Tryz.prog (mkG [] []):=aC (by simp) (by simp)
 refine aI [.o] mixed ax hG (fn:=Tryz.f78) (c:=aa Tryz.f78) (by kernel_rfl) (by kernel_rfl) (by kernel_rfl) (by kernel_rfl) fun l con h hp=>?_
 unfold nr at h
 split at h
 ·rename_i hl
  subst hl
  cases h
  refine⟨Nat.le_of_ble_eq_true rfl,L0,by unfold aa Tryz.f78;simp only[ay,and_self],?_⟩
  unfold aa Tryz.f78
  simp only[go_sem,iX,true_imp_iff,Nat.reduceBEq,Nat.reduceLeDiff,Nat.reduceAdd,Nat.reduceSub,Nat.reduceMul,true_and,and_true,implies_true,List.map_cons,List.map_nil]
  rfl
 ·cases h
def cF:List SV→Option Con:=pE (.det True (.fn 121 [] [.ep [iX] 0]))
theorem n9:FnOk Tryz.prog 44 cF:=by
 have hG:ConsOk Tryz.prog (mkG [(78,nr)] []):=aC (by
  intro x hx
  simp only[List.mem_cons,List.not_mem_nil,or_false]at hx
  rcases hx with rfl
  exact AA) (by simp)
 refine aI [.o] mixed ax hG (fn:=Tryz.f44) (c:=aa Tryz.f44) (by kernel_rfl) (by kernel_rfl) (by kernel_rfl) (by kernel_rfl) fun l con h hp=>?_
 unfold cF at h
 obtain⟨rfl,rfl⟩:=p8 h
 refine⟨Nat.le_of_ble_eq_true rfl,L0,by unfold aa Tryz.f44;simp only[ay,and_self],?_⟩
 unfold aa Tryz.f44
 simp only[go_sem,nr,iX,true_imp_iff,Nat.reduceBEq,Nat.reduceLeDiff,Nat.reduceAdd,Nat.reduceSub,Nat.reduceMul,true_and,and_true,implies_true,List.map_cons,List.map_nil,if_true]
 rfl
def n_ (k:Nat)(x:Order):Int:=match k with|0=>kl x|1=>nZ x|_=>km x
def sM (a b:Order):Nat→Unit→Int⊕Unit:=fun k _=>bif(aP (n_ k a) (n_ k b) !=0)then .inl (aP (n_ k a) (n_ k b))else .inr ()
def aG (a b:Order):Int:=match ap (sM a b) 3 0 ()with| .inl x=>x| .inr _=>0
open Classical in
noncomputable def gb:List SV→Option Con:=pD .order fun a=>pD .order fun b=>fun l=>if l=[.ep [iX] 0]then some (.det True (.i (aG a b)))else none
theorem qx:FnOk Tryz.prog 121 gb:=by
 have hG:ConsOk Tryz.prog (mkG [(70,c9),(79,iV),(80,lf),(81,iW)] []):=aC (by
  intro x hx
  simp only[List.mem_cons,List.not_mem_nil,or_false]at hx
  rcases hx with rfl|rfl|rfl|rfl
  ·exact dI
  ·exact rC
  ·exact uX
  ·exact rD) (by simp)
 refine aI [.o] mixed ax hG (fn:=Tryz.f121) (c:=aa Tryz.f121) (by kernel_rfl) (by kernel_rfl) (by kernel_rfl) (by kernel_rfl) fun l con h hp=>?_
 unfold gb at h
 obtain⟨a,l0,rfl,h0⟩:=rt h
 obtain⟨b,l1,rfl,h1⟩:=rt h0
 split at h1
 rotate_left
 ·cases h1
 rename_i hl
 subst hl
 cases h1
 clear h h0
 obtain⟨ah,ai,al,ao⟩:=a
 obtain⟨bh,bi,bl,bo⟩:=b
 refine⟨Nat.le_of_ble_eq_true rfl,(fun id st=>bif Nat.beq id 0 then some (LC (ρ:=Int) (σ:=Unit) (lk 3 st.t=.ptr 0 0∧lk 4 st.t=.ptr 1 0∧lk 9 st.t=iX∧lk 10 st.t=.i 3∧lk 11 st.t=.i 0∧st.h=[.cells (cellsOf .order ⟨ah,ai,al,ao⟩),.cells (cellsOf .order ⟨bh,bi,bl,bo⟩)]) (ap (sM ⟨ah,ai,al,ao⟩ ⟨bh,bi,bl,bo⟩) 3 0 ()) (fun _=>.ret) (fun x=>⟨[(5,.i x)],[.dead,.dead]⟩) (fun _=>⟨[],[.dead,.dead]⟩))else none),?_,?_⟩
 ·unfold aa Tryz.f121
  simp only[ay,true_and,and_true]
  refine we mixed ax hG (by kernel_rfl) fun st lc hC hp=>?_
  simp only[go_sem,Nat.reduceBEq,Option.some.injEq]at hC
  subst hC
  obtain⟨t,h⟩:=st
  dsimp only[LC]at hp
  obtain⟨e1,e2,e3,e4,e5,rfl⟩:=hp
  refine⟨_,_,_,sM ⟨ah,ai,al,ao⟩ ⟨bh,bi,bl,bo⟩,fun _ _=>True,3,(),_,_,_,(fun k _=>⟨[(3,.ptr 0 0),(4,.ptr 1 0),(9,iX),(10,.i 3),(11,.i (k:Int))],[.cells (cellsOf .order ⟨ah,ai,al,ao⟩),.cells (cellsOf .order ⟨bh,bi,bl,bo⟩)]⟩),[0,1],rfl,jt _ _ _ fun _ _ _ _=>trivial,Nat.le_refl _,?_,fun k s hk hpk=>⟨L0,?_,?_⟩⟩
  ·simp only[go_sem,e1,e2,e3,e4,e5,iX,Nat.reduceBEq,Nat.reduceLeDiff,Nat.reduceAdd,true_and,and_true]
   all_goals (first|done|decide|(repeat' (first|refine And.intro ?_ ?_|rfl|decide)))
  ·simp only[ay,and_self,true_and,and_true]
  ·have hk4:k=0∨k=1∨k=2∨k=3:=by omega
   have hw0:IntKind.i64.wrap ((0:Int)+1)=((0+1:Nat):Int):=by decide
   have hw1:IntKind.i64.wrap ((1:Int)+1)=((1+1:Nat):Int):=by decide
   have hw2:IntKind.i64.wrap ((2:Int)+1)=((2+1:Nat):Int):=by decide
   rcases hk4 with rfl|rfl|rfl|rfl
   all_goals
    simp only[go_sem,c9,iV,lf,iW,iX,sM,n_,true_imp_iff,false_imp_iff,Bool.false_eq_true,Int.toNat_natCast,Int.toNat_zero,Nat.reduceBEq,Nat.reduceLeDiff,Nat.reduceAdd,Nat.reduceSub,Nat.reduceMul,Nat.reduceLT,Int.reduceLE,Int.reduceLT,Int.reduceToNat,Int.reduceNeg,true_and,and_true,and_self,implies_true,forall_const,reduceCtorEq,Int.cast_ofNat_Int]
   all_goals (first|done|(repeat' (first|with_reducible refine And.intro ?_ ?_|((with_reducible show _≠_);first|assumption|omega|(simp_all;done) |grind) |with_reducible intro _)) <;>(first|done|assumption|rfl|omega|decide|(simp only[*,cond_true,cond_false,go_sem,true_imp_iff,false_imp_iff,Bool.false_eq_true,Int.toNat_natCast,Int.toNat_zero,Nat.reduceBEq,Nat.reduceLeDiff,Nat.reduceAdd,Nat.reduceSub,Nat.reduceMul,Int.reduceLE,Int.reduceLT,Int.reduceToNat,Int.reduceNeg,true_and,and_true,and_self,implies_true,forall_const,reduceCtorEq];done) |(simp only[*,cond_true,cond_false,go_sem,true_imp_iff,false_imp_iff,Bool.false_eq_true,Int.toNat_natCast,Int.toNat_zero,Nat.reduceBEq,Nat.reduceLeDiff,Nat.reduceAdd,Nat.reduceSub,Nat.reduceMul,Int.reduceLE,Int.reduceLT,Int.reduceToNat,Int.reduceNeg,true_and,and_true,and_self,implies_true,forall_const,reduceCtorEq];(repeat' (first|with_reducible refine And.intro ?_ ?_|((with_reducible show _≠_);first|assumption|omega|(simp_all;done) |grind) |with_reducible intro _)) <;>(first|done|assumption|rfl|omega|decide))))
   all_goals trace_state
 ·unfold aa Tryz.f121
  unfold aG
  simp only[go_sem,iX,true_imp_iff,false_imp_iff,Bool.false_eq_true,Nat.reduceBEq,Nat.reduceLeDiff,Nat.reduceAdd,Nat.reduceSub,Nat.reduceMul,true_and,and_true,implies_true,sz,List.map_cons,List.map_nil]
  all_goals (first|done|(repeat' (first|with_reducible refine And.intro ?_ ?_|((with_reducible show _≠_);first|assumption|omega|(simp_all;done) |grind) |with_reducible intro _)) <;>(first|done|assumption|rfl|omega|(simp only[*,cond_true,cond_false,Bool.not_true,Bool.not_false,go_sem,true_imp_iff,false_imp_iff,Bool.false_eq_true,Int.toNat_natCast,Int.toNat_zero,Nat.reduceBEq,Nat.reduceLeDiff,Nat.reduceAdd,Nat.reduceSub,Nat.reduceMul,Int.reduceLE,Int.reduceLT,Int.reduceToNat,Int.reduceNeg,true_and,and_true,and_self,implies_true,forall_const,reduceCtorEq];done) |(simp only[*,cond_true,cond_false,Bool.not_true,Bool.not_false,go_sem,true_imp_iff,false_imp_iff,Bool.false_eq_true,Int.toNat_natCast,Int.toNat_zero,Nat.reduceBEq,Nat.reduceLeDiff,Nat.reduceAdd,Nat.reduceSub,Nat.reduceMul,Int.reduceLE,Int.reduceLT,Int.reduceToNat,Int.reduceNeg,true_and,and_true,and_self,implies_true,forall_const,reduceCtorEq];(repeat' (first|with_reducible refine And.intro ?_ ?_|((with_reducible show _≠_);first|assumption|omega|(simp_all;done) |grind) |with_reducible intro _)) <;>(first|done|assumption|rfl|omega|(simp_all;done))) |(simp_all [okI];done) |grind))
attribute [go_sem] cF gb
end Go.Sx
end
