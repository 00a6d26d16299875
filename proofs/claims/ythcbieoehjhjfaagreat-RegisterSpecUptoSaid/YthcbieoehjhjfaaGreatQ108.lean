/- Part of the proof that the law RegisterSpec returns true and leaves its arguments as they were, for all arguments of bulk at most 1048576 (the Upto form). -/
import Derived.Test.YthcbieoehjhjfaaGreatQ107
import Derived.Test.YthcbieoehjhjfaaGreatProg
set_option linter.all false
set_option maxHeartbeats 4000000
set_option maxRecDepth 100000
section
namespace Go.Sx
open Go.Proofs
theorem kr {p:Prop}(h:p:=by kernel_rfl):p:=h
def ti3:TI:=⟨1,8,false,[(.v (.int .i64 0))],[],0,0,false,false,(some .int),(some .i64),false,[],none,none,1⟩
def ti4:TI:=⟨1,1,false,[(.v (.bool false))],[],0,0,false,false,(some .bool),none,false,[],none,none,3⟩
def ti9:TI:=⟨1,16,false,[(.v (.string (ByteArray.mk #[])))],[],0,0,false,false,(some .str),none,false,[],none,none,2⟩
def JV:TI:=⟨2,16,true,[(.v (.int .i64 0)),(.v (.int .i64 0))],[(0,(1,false)),(1,(1,false))],0,0,false,false,(some .tank),none,false,[1,1],none,none,0⟩
def JW:TI:=⟨1,24,false,[(.v (.slice none 0 0))],[],113,0,true,false,none,none,false,[],none,none,0⟩
def JX:TI:=⟨1,24,false,[(.v (.slice none 0 0))],[],115,0,true,false,none,none,false,[],none,none,0⟩
def JY:TI:=⟨1,24,false,[(.v (.slice none 0 0))],[],140,0,true,false,none,none,false,[],none,none,0⟩
def JZ:TI:=⟨1,24,false,[(.v (.slice none 0 0))],[],58,0,true,false,none,none,false,[],none,none,0⟩
def J0:TI:=⟨1,24,false,[(.v (.slice none 0 0))],[],144,0,true,false,none,none,false,[],none,none,0⟩
def J1:TI:=⟨1,24,false,[(.v (.slice none 0 0))],[],214,0,true,false,none,none,false,[],none,none,0⟩
def J2:TI:=⟨10,184,true,[(.v (.string (ByteArray.mk #[]))),(.v (.int .i64 0)),(.v (.int .i64 0)),(.v (.int .i64 0)),(.v (.slice none 0 0)),(.v (.slice none 0 0)),(.v (.slice none 0 0)),(.v (.slice none 0 0)),(.v (.slice none 0 0)),(.v (.slice none 0 0))],[(0,(1,false)),(1,(1,false)),(2,(2,true)),(4,(1,false)),(5,(1,false)),(6,(1,false)),(7,(1,false)),(8,(1,false)),(9,(1,false))],0,0,false,false,(some .district),none,false,[],none,none,0⟩
def J3:TI:=⟨1,24,false,[(.v (.slice none 0 0))],[],35,0,true,false,none,none,false,[],none,none,0⟩
def J4:TI:=⟨1,24,false,[(.v (.slice none 0 0))],[],71,0,true,false,none,none,false,[],none,none,0⟩
def J5:TI:=⟨9,88,true,[(.v (.int .i64 0)),(.v (.int .i64 0)),(.v (.int .i64 0)),(.v (.int .i64 0)),(.v (.int .i64 0)),(.v (.slice none 0 0)),(.v (.int .i64 0)),(.v (.int .i64 0)),(.v (.int .i64 0))],[(0,(1,false)),(1,(1,false)),(2,(1,false)),(3,(1,false)),(4,(1,false)),(5,(1,false)),(6,(1,false)),(7,(1,false)),(8,(1,false))],0,0,false,false,(some .deed),none,false,[],none,none,0⟩
def J6:TI:=⟨1,24,false,[(.v (.slice none 0 0))],[],67,0,true,false,none,none,false,[],none,none,0⟩
def J7:TI:=⟨1,24,false,[(.v (.slice none 0 0))],[],3,0,true,false,none,none,false,[],none,none,0⟩
def J8:TI:=⟨10,88,true,[(.v (.string (ByteArray.mk #[]))),(.v (.int .i64 0)),(.v (.int .i64 0)),(.v (.int .i64 0)),(.v (.int .i64 0)),(.v (.int .i64 0)),(.v (.int .i64 0)),(.v (.int .i64 0)),(.v (.int .i64 0)),(.v (.int .i64 0))],[(0,(1,false)),(1,(1,false)),(2,(1,false)),(3,(1,false)),(4,(1,false)),(5,(1,false)),(6,(1,false)),(7,(1,false)),(8,(1,false)),(9,(1,false))],0,0,false,false,(some .right),none,false,[2,1,1,1,1,1,1,1,1,1],none,none,0⟩
def J9:TI:=⟨1,8,false,[(.v (.map none))],[],4,0,false,false,none,none,false,[],(some .int),(some .bool),0⟩
def J_:TI:=⟨4,32,true,[(.v (.int .i64 0)),(.v (.int .i64 0)),(.v (.int .i64 0)),(.v (.int .i64 0))],[(0,(1,false)),(1,(1,false)),(2,(1,false)),(3,(1,false))],0,0,false,false,(some .holding),none,false,[1,1,1,1],none,none,0⟩
def Ka:TI:=⟨2,16,true,[(.v (.int .i64 0)),(.v (.int .i64 0))],[(0,(1,false)),(1,(1,false))],0,0,false,false,(some .ratio),none,false,[1,1],none,none,0⟩
def Kb:TI:=⟨3,24,true,[(.v (.int .i64 0)),(.v (.int .i64 0)),(.v (.int .i64 0))],[(0,(1,false)),(1,(2,true))],0,0,false,false,(some .part),none,false,[1,1,1],none,none,0⟩
def Kc:TI:=⟨1,8,false,[(.v (.map none))],[],35,0,false,false,none,none,false,[],(some .int),(some .deed),0⟩
def Ke:TI:=⟨1,8,false,[(.v (.map none))],[],3,0,false,false,none,none,false,[],(some .registerTitle),(some .int),0⟩
def Kf:TI:=⟨2,16,true,[(.v (.int .i64 0)),(.v (.int .i64 0))],[(0,(1,false)),(1,(1,false))],0,0,false,false,(some .registerTitle),none,false,[1,1],none,none,0⟩
def Ea:TI:=⟨4,32,true,[(.v (.int .i64 0)),(.v (.int .i64 0)),(.v (.int .i64 0)),(.v (.int .i64 0))],[],69,2,false,true,(some .ratio2),none,false,[],none,none,0⟩
def Eb:TI:=⟨2,16,true,[(.v (.int .i64 0)),(.v (.int .i64 0))],[(0,(1,false)),(1,(1,false))],0,0,false,false,(some .range),none,false,[1,1],none,none,0⟩
def Ec:TI:=⟨12,104,true,[(.v (.string (ByteArray.mk #[]))),(.v (.int .i64 0)),(.v (.int .i64 0)),(.v (.int .i64 0)),(.v (.int .i64 0)),(.v (.int .i64 0)),(.v (.int .i64 0)),(.v (.int .i64 0)),(.v (.int .i64 0)),(.v (.int .i64 0)),(.v (.int .i64 0)),(.v (.int .i64 0))],[(0,(1,false)),(1,(1,false)),(2,(1,false)),(3,(1,false)),(4,(1,false)),(5,(1,false)),(6,(2,true)),(8,(4,true))],0,0,false,false,(some .reach),none,false,[],none,none,0⟩
def Ed:TI:=⟨4,40,true,[(.v (.string (ByteArray.mk #[]))),(.v (.int .i64 0)),(.v (.int .i64 0)),(.v (.int .i64 0))],[(0,(1,false)),(1,(1,false)),(2,(1,false)),(3,(1,false))],0,0,false,false,(some .farm),none,false,[2,1,1,1],none,none,0⟩
def Ee:TI:=⟨1,8,false,[(.v (.int .u64 0))],[],0,0,false,false,none,(some .u64),false,[],none,none,1⟩
def Ef:TI:=⟨1,8,false,[(.v (.map none))],[],127,0,false,false,none,none,false,[],(some .int),(some .fnc),0⟩
def Eg:TI:=⟨2,24,true,[(.v (.string (ByteArray.mk #[]))),(.v (.int .i64 0))],[(0,(1,false)),(1,(1,false))],0,0,false,false,(some .crop),none,false,[2,1],none,none,0⟩
def Eh:TI:=⟨4,40,true,[(.v (.string (ByteArray.mk #[]))),(.v (.int .i64 0)),(.v (.int .i64 0)),(.v (.int .i64 0))],[(0,(1,false)),(1,(1,false)),(2,(1,false)),(3,(1,false))],0,0,false,false,(some .duty),none,false,[2,1,1,1],none,none,0⟩
def Ei:TI:=⟨1,8,false,[(.v .nilFunc)],[],0,0,false,false,none,none,false,[],none,none,0⟩
def Ej:TI:=⟨1,8,true,[(.v .nilFunc)],[(0,(1,false))],0,0,false,false,none,none,false,[],none,none,0⟩
def ts:Tis:=fun t=>(bif Nat.ble t 58 then(bif Nat.ble t 28 then(bif Nat.ble t 23 then(bif Nat.ble t 4 then(bif Nat.ble t 3 then(bif Nat.beq t 3 then some ti3 else none)else(bif Nat.beq t 4 then some ti4 else none))else(bif Nat.ble t 9 then(bif Nat.beq t 9 then some ti9 else none)else(bif Nat.beq t 23 then some JV else none)))else(bif Nat.ble t 25 then(bif Nat.ble t 24 then(bif Nat.beq t 24 then some JW else none)else(bif Nat.beq t 25 then some JX else none))else(bif Nat.ble t 26 then(bif Nat.beq t 26 then some JY else none)else(bif Nat.ble t 27 then(bif Nat.beq t 27 then some JZ else none)else(bif Nat.beq t 28 then some J0 else none)))))else(bif Nat.ble t 33 then(bif Nat.ble t 31 then(bif Nat.ble t 29 then(bif Nat.beq t 29 then some J1 else none)else(bif Nat.beq t 31 then some J2 else none))else(bif Nat.ble t 32 then(bif Nat.beq t 32 then some J3 else none)else(bif Nat.beq t 33 then some J4 else none)))else(bif Nat.ble t 38 then(bif Nat.ble t 35 then(bif Nat.beq t 35 then some J5 else none)else(bif Nat.beq t 38 then some ti3 else none))else(bif Nat.ble t 44 then(bif Nat.beq t 44 then some J6 else none)else(bif Nat.ble t 47 then(bif Nat.beq t 47 then some J7 else none)else(bif Nat.beq t 58 then some J8 else none))))))else(bif Nat.ble t 111 then(bif Nat.ble t 71 then(bif Nat.ble t 67 then(bif Nat.ble t 62 then(bif Nat.beq t 62 then some J9 else none)else(bif Nat.beq t 67 then some J_ else none))else(bif Nat.ble t 69 then(bif Nat.beq t 69 then some Ka else none)else(bif Nat.beq t 71 then some Kb else none)))else(bif Nat.ble t 90 then(bif Nat.ble t 85 then(bif Nat.beq t 85 then some Kc else none)else(bif Nat.beq t 90 then some Ke else none))else(bif Nat.ble t 97 then(bif Nat.beq t 97 then some Kf else none)else(bif Nat.ble t 109 then(bif Nat.beq t 109 then some Ea else none)else(bif Nat.beq t 111 then some Eb else none)))))else(bif Nat.ble t 125 then(bif Nat.ble t 115 then(bif Nat.ble t 113 then(bif Nat.beq t 113 then some Ec else none)else(bif Nat.beq t 115 then some Ed else none))else(bif Nat.ble t 116 then(bif Nat.beq t 116 then some Ee else none)else(bif Nat.beq t 125 then some Ef else none)))else(bif Nat.ble t 140 then(bif Nat.ble t 135 then(bif Nat.beq t 135 then some ti3 else none)else(bif Nat.beq t 140 then some Eg else none))else(bif Nat.ble t 144 then(bif Nat.beq t 144 then some Eh else none)else(bif Nat.ble t 170 then(bif Nat.beq t 170 then some Ei else none)else(bif Nat.beq t 172 then some Ej else none)))))))
theorem Ny:cC Tryz.prog 3=some ti3:=by kernel_rfl
theorem Nz:cC Tryz.prog 4=some ti4:=by kernel_rfl
theorem NA:cC Tryz.prog 9=some ti9:=by kernel_rfl
theorem Kg:cC Tryz.prog 23=some JV:=by kernel_rfl
theorem Kh:cC Tryz.prog 24=some JW:=by kernel_rfl
theorem Ki:cC Tryz.prog 25=some JX:=by kernel_rfl
theorem Kj:cC Tryz.prog 26=some JY:=by kernel_rfl
theorem Kk:cC Tryz.prog 27=some JZ:=by kernel_rfl
theorem Kl:cC Tryz.prog 28=some J0:=by kernel_rfl
theorem Km:cC Tryz.prog 29=some J1:=by kernel_rfl
theorem Kn:cC Tryz.prog 31=some J2:=by kernel_rfl
theorem Ko:cC Tryz.prog 32=some J3:=by kernel_rfl
theorem Kp:cC Tryz.prog 33=some J4:=by kernel_rfl
theorem Kq:cC Tryz.prog 35=some J5:=by kernel_rfl
theorem Kr:cC Tryz.prog 38=some ti3:=by kernel_rfl
theorem Ks:cC Tryz.prog 44=some J6:=by kernel_rfl
theorem Kt:cC Tryz.prog 47=some J7:=by kernel_rfl
theorem Ku:cC Tryz.prog 58=some J8:=by kernel_rfl
theorem Kv:cC Tryz.prog 62=some J9:=by kernel_rfl
theorem Kw:cC Tryz.prog 67=some J_:=by kernel_rfl
theorem Kx:cC Tryz.prog 69=some Ka:=by kernel_rfl
theorem Ky:cC Tryz.prog 71=some Kb:=by kernel_rfl
theorem Kz:cC Tryz.prog 85=some Kc:=by kernel_rfl
theorem KA:cC Tryz.prog 90=some Ke:=by kernel_rfl
theorem KB:cC Tryz.prog 97=some Kf:=by kernel_rfl
theorem Hv:cC Tryz.prog 109=some Ea:=by kernel_rfl
theorem Hw:cC Tryz.prog 111=some Eb:=by kernel_rfl
theorem Hz:cC Tryz.prog 113=some Ec:=by kernel_rfl
theorem HA:cC Tryz.prog 115=some Ed:=by kernel_rfl
theorem HB:cC Tryz.prog 116=some Ee:=by kernel_rfl
theorem HC:cC Tryz.prog 125=some Ef:=by kernel_rfl
theorem HD:cC Tryz.prog 135=some ti3:=by kernel_rfl
theorem HE:cC Tryz.prog 140=some Eg:=by kernel_rfl
theorem HF:cC Tryz.prog 144=some Eh:=by kernel_rfl
theorem HG:cC Tryz.prog 170=some Ei:=by kernel_rfl
theorem HH:cC Tryz.prog 172=some Ej:=by kernel_rfl
theorem al:Tis.ok ts Tryz.prog:=(Tis.ok_node (Tis.ok_node (Tis.ok_node (Tis.ok_node (Tis.ok_node (Tis.ok_leaf Ny) (Tis.ok_leaf Nz)) (Tis.ok_node (Tis.ok_leaf NA) (Tis.ok_leaf Kg))) (Tis.ok_node (Tis.ok_node (Tis.ok_leaf Kh) (Tis.ok_leaf Ki)) (Tis.ok_node (Tis.ok_leaf Kj) (Tis.ok_node (Tis.ok_leaf Kk) (Tis.ok_leaf Kl))))) (Tis.ok_node (Tis.ok_node (Tis.ok_node (Tis.ok_leaf Km) (Tis.ok_leaf Kn)) (Tis.ok_node (Tis.ok_leaf Ko) (Tis.ok_leaf Kp))) (Tis.ok_node (Tis.ok_node (Tis.ok_leaf Kq) (Tis.ok_leaf Kr)) (Tis.ok_node (Tis.ok_leaf Ks) (Tis.ok_node (Tis.ok_leaf Kt) (Tis.ok_leaf Ku)))))) (Tis.ok_node (Tis.ok_node (Tis.ok_node (Tis.ok_node (Tis.ok_leaf Kv) (Tis.ok_leaf Kw)) (Tis.ok_node (Tis.ok_leaf Kx) (Tis.ok_leaf Ky))) (Tis.ok_node (Tis.ok_node (Tis.ok_leaf Kz) (Tis.ok_leaf KA)) (Tis.ok_node (Tis.ok_leaf KB) (Tis.ok_node (Tis.ok_leaf Hv) (Tis.ok_leaf Hw))))) (Tis.ok_node (Tis.ok_node (Tis.ok_node (Tis.ok_leaf Hz) (Tis.ok_leaf HA)) (Tis.ok_node (Tis.ok_leaf HB) (Tis.ok_leaf HC))) (Tis.ok_node (Tis.ok_node (Tis.ok_leaf HD) (Tis.ok_leaf HE)) (Tis.ok_node (Tis.ok_leaf HF) (Tis.ok_node (Tis.ok_leaf HG) (Tis.ok_leaf HH)))))))
@[go_sem] theorem ts_3:ts 3=some ti3:=(rfl)
@[go_sem] theorem ts_4:ts 4=some ti4:=(rfl)
@[go_sem] theorem ts_9:ts 9=some ti9:=(rfl)
@[go_sem] theorem ts_23:ts 23=some JV:=(rfl)
@[go_sem] theorem ts_24:ts 24=some JW:=(rfl)
@[go_sem] theorem ts_25:ts 25=some JX:=(rfl)
@[go_sem] theorem ts_26:ts 26=some JY:=(rfl)
@[go_sem] theorem ts_27:ts 27=some JZ:=(rfl)
@[go_sem] theorem ts_28:ts 28=some J0:=(rfl)
@[go_sem] theorem ts_29:ts 29=some J1:=(rfl)
@[go_sem] theorem ts_31:ts 31=some J2:=(rfl)
@[go_sem] theorem ts_32:ts 32=some J3:=(rfl)
@[go_sem] theorem ts_33:ts 33=some J4:=(rfl)
@[go_sem] theorem ts_35:ts 35=some J5:=(rfl)
@[go_sem] theorem ts_38:ts 38=some ti3:=(rfl)
@[go_sem] theorem ts_44:ts 44=some J6:=(rfl)
@[go_sem] theorem ts_47:ts 47=some J7:=(rfl)
@[go_sem] theorem ts_58:ts 58=some J8:=(rfl)
@[go_sem] theorem ts_62:ts 62=some J9:=(rfl)
@[go_sem] theorem ts_67:ts 67=some J_:=(rfl)
@[go_sem] theorem ts_69:ts 69=some Ka:=(rfl)
@[go_sem] theorem ts_71:ts 71=some Kb:=(rfl)
@[go_sem] theorem ts_85:ts 85=some Kc:=(rfl)
@[go_sem] theorem ts_90:ts 90=some Ke:=(rfl)
@[go_sem] theorem ts_97:ts 97=some Kf:=(rfl)
@[go_sem] theorem Uk:ts 109=some Ea:=(rfl)
@[go_sem] theorem Ul:ts 111=some Eb:=(rfl)
@[go_sem] theorem Um:ts 113=some Ec:=(rfl)
@[go_sem] theorem Uo:ts 115=some Ed:=(rfl)
@[go_sem] theorem Uq:ts 116=some Ee:=(rfl)
@[go_sem] theorem Ur:ts 125=some Ef:=(rfl)
@[go_sem] theorem Us:ts 135=some ti3:=(rfl)
@[go_sem] theorem Ut:ts 140=some Eg:=(rfl)
@[go_sem] theorem Uu:ts 144=some Eh:=(rfl)
@[go_sem] theorem Uv:ts 170=some Ei:=(rfl)
@[go_sem] theorem Uw:ts 172=some Ej:=(rfl)
attribute [go_sem] ti3 ti4 ti9 JV JW JX JY JZ J0 J1 J2 J3 J4 J5 J6 J7 J8 J9 J_ Ka Kb Kc Ke Kf Ea Eb Ec Ed Ee Ef Eg Eh Ei Ej
theorem mixed:Tryz.prog.follows .mixedOrders=true:=by kernel_rfl
def gz:List SV->Option Con
 | [.v (.iface t (.int .i64 e))] =>bif Nat.beq t 135 then some (.det True (.i e))else none
 |_=>none
theorem tK:FnOk Tryz.prog 57 gz:=by
 have hG:ConsOk Tryz.prog (mkG [] []):=av (by simp) (by simp);refine aR [.o] mixed al hG (fn:=Tryz.f57) (c:=ae Tryz.f57) kr kr kr kr fun l con h hp=>?_;unfold gz at h;split at h
 ·rename_i t e;cases ht:Nat.beq t 135 with
  |false=>rw[ht]at h;cases h
  |true=>
   rw[ht]at h;cases h;have ht':=Nat.eq_of_beq_eq_true ht;subst ht';refine⟨nbl rfl,L0,by unfold ae Tryz.f57;simp only[ak,and_self],?_⟩;unfold ae Tryz.f57;simp only[go_sem,true_imp_iff,false_imp_iff,Nat.reduceBEq,Nat.reduceLeDiff,Nat.reduceAdd,Nat.reduceSub,Nat.reduceMul,true_and,and_true,implies_true,reduceCtorEq]
 ·cases h
def NB:Value->Option SV
 | .iface t (.int .i64 e) =>bif Nat.beq t 135 then some (.i e)else none
 |_=>none
theorem HI:LV Tryz.prog 56 NB:=by
 obtain⟨fn,hfn,hbody,hn,hres⟩:∃ fn,Tryz.prog.funcs[56]? =some fn/\fn.body=some (ae Tryz.f56)/\fn.ntmps=7/\fn.results= #[]:=⟨Tryz.f56,by kernel_rfl,by kernel_rfl,by kernel_rfl,by kernel_rfl⟩;have hG:ConsOk Tryz.prog (mkG [(57,gz)] []):=av (by
  intro x hx;simp only[List.mem_cons,List.not_mem_nil,or_false]at hx;rcases hx with rfl;exact tK) (by simp)
 refine⟨fun args w=>by kernel_rfl,fun p w=>?_,?_⟩
 ·refine callsDIn_of_wpSIn hfn hbody trivial fun c₀ cs hu=>?_;unfold ae Tryz.f56;refine wpSIn_seq (wpSIn_region ?_);simp[wpOpsSIn,go_sem,recoverD,hu,hn,Exit.thenS,Oper.about,Region.wanted];refine wpSIn_seq (wpSIn_region ?_);simp[wpOpsSIn,go_sem,recoverD,hu,Exit.thenS,Oper.about,Region.wanted];refine wpSIn_cond (t:=false) (by simp[Act.eval]) ?_;simp only[Bool.false_eq_true,if_false];refine wpSIn_of_wpIn rfl (wpIn_skip ?_);cases c₀;simp_all [bodyPostS,results]
 ·intro x s hx F own w h id hd b y hfw hp hob ho hpb;unfold NB at hx;split at hx
  ·rename_i t e;cases ht:Nat.beq t 135 with
   |false=>rw[ht]at hx;cases hx
   |true=>
    rw[ht]at hx;cases hx;have ht':=Nat.eq_of_beq_eq_true ht;subst ht';refine callsDIn_of_wpSIn hfn hbody trivial fun c₀ cs hu=>?_;unfold ae Tryz.f56;refine wpSIn_seq (wpSIn_region ?_);simp[wpOpsSIn,go_sem,recoverD,hu,hn,Exit.thenS,Oper.about,Region.wanted];refine wpSIn_seq (wpSIn_region ?_);simp[wpOpsSIn,go_sem,recoverD,hu,Exit.thenS,Oper.about,Region.wanted];refine wpSIn_cond (t:=true) (by simp[Act.eval]) ?_;simp only[if_true];refine wpSIn_of_wpIn rfl ?_;have hr:StRel F { w:=w,own:=own} 7 own ⟨[(0,.ptr id 0),(1,.v (.iface 135 (.int .i64 e)))],h⟩ { tmps:= #[.pointer (some ⟨b,0,none⟩),.iface 135 (.int .i64 e),.iface 135 (.int .i64 e),.iface 135 (.int .i64 e),.bool true,undef,undef],defers:=[]} w:=by
     refine⟨rfl,Dfr.nil,hp,Fr.refl { w:=w,own:=own},fun t=>?_⟩;rw[kp];by_cases h0:0=t
     ·subst h0;rw[if_pos rfl];exact .ptr ho hpb
     ·rw[if_neg h0,kp];by_cases h1:1=t
      ·subst h1;rw[if_pos rfl];exact .v _
      ·rw[if_neg h1];exact .any _
    refine wpIn_mono (Da (ts:=ts) (L:=L0) (Q:=fun st=>st.h=bp h id (.cells [.i e])) mixed al hG kr ?_ hr) ?_
    ·simp only[go_sem,hob,rE (h:=h) (i:=id) (o:=.cells [.v (.int .i64 e)]) rfl hfw,gz,Nat.reduceBEq,Nat.reduceLeDiff,Nat.reduceAdd,true_and,and_true,true_imp_iff]
    ·rintro ex a' w' ⟨rfl,own1,st1,hst1,hh⟩;have hd0:a'.defers=[]:=by
      obtain⟨ms,Ds,q0,q1,q2,q3⟩:=hst1.defers;cases Ds with
      |nil=>rw[q0];simp at q1;simp[q1]
      |cons D r=>
       obtain⟨m1,m2,_⟩:=q3 D (by simp);have:=hp.foreign D m2;simp only at m1;omega
     refine⟨hd0,.panicking [{ v:=.iface 135 (.int .i64 e),recovered:=true}],?_,_,by simp[results,hres];rfl,⟨_,rfl⟩,rfl,own1,hh▸hst1.hp,hst1.fr⟩;cases c₀;simp_all
  ·cases hx
attribute [go_sem] gz
abbrev SV.u (n:Nat):SV:=.v (.int .u64 (n:Int))
def Dc (ps:List (Nat×(List SV->Option Con)))(os:List (Nat×(List SV->List Ob->Option HCon)))(Y:List SV->Res->Option YCon):Cons:=⟨mkP ps,mkO os,Y⟩
@[go_sem] theorem Ux {ps:List (Nat×(List SV->Option Con))}{os:List (Nat×(List SV->List Ob->Option HCon))}{Y:List SV->Res->Option YCon}:(Dc ps os Y).p=mkP ps:=(rfl)
@[go_sem] theorem Uy {ps:List (Nat×(List SV->Option Con))}{os:List (Nat×(List SV->List Ob->Option HCon))}{Y:List SV->Res->Option YCon}:(Dc ps os Y).o=mkO os:=(rfl)
@[go_sem] theorem Uz {ps:List (Nat×(List SV->Option Con))}{os:List (Nat×(List SV->List Ob->Option HCon))}{Y:List SV->Res->Option YCon}:(Dc ps os Y).y=Y:=(rfl)
theorem Ek {P:Program}{ps:List (Nat×(List SV->Option Con))}{os:List (Nat×(List SV->List Ob->Option HCon))}{Y:List SV->Res->Option YCon}(h1:∀ x∈ps,FnOk P x.1 x.2)(h2:∀ x∈os,FnOkO P x.1 x.2)(h3:YOk P Y):ConsOk P (Dc ps os Y):=⟨C5 ps h1,C6 os h2,h3⟩
def C90:List SV->List Ob->Option HCon:=fun l h=>noH h ((pU fun n=>pU fun d=>pE { α:=Unit,pre:=True,post:=fun _=>True,res:=fun _=>.ret (.fn 142 [] [.ptr 0 0,.ptr 1 0]) [.cells [.v (.int .u64 n)],.cells [.v (.int .u64 d)]]}) l)
theorem NC:FnOkO Tryz.prog 116 C90:=by
 have hG:ConsOk Tryz.prog (mkG [] []):=av (by simp) (by simp);refine Bn mixed al hG (fn:=Tryz.f116) (c:=ae Tryz.f116) kr kr kr kr fun l o con h hp=>?_;unfold C90 at h;obtain⟨rfl,h⟩:=JP h;obtain⟨n,l0,rfl,h0⟩:=zT h;obtain⟨d,l1,rfl,h1⟩:=zT h0;obtain⟨rfl,rfl⟩:=C7 h1;refine⟨nbl rfl,L0,by unfold ae Tryz.f116;simp only[ak,and_self],?_⟩;unfold ae Tryz.f116;simp only[go_sem,true_imp_iff,decide_eq_true_eq,Nat.reduceBEq,Nat.reduceLeDiff,Nat.reduceAdd,Nat.reduceSub,Nat.reduceMul,true_and,and_true,implies_true];refine⟨(),_,_,[0,1],rfl,?_⟩;simp only[go_sem,Nat.reduceBEq,Nat.reduceLeDiff,Nat.reduceAdd,true_and,and_true];exact⟨rfl,rfl⟩
def tL:Nat->Nat->Nat->List Nat
 |0,n,d=>if n=0 then []else [n,d]
 |f+1,n,d=>if n=0 then []else n::(if n % max d 1=0 then [d]else tL f d (n % max d 1))
def lW (f n d:Nat):List (List SV):=(tL f n d).map fun x=>[SV.u x]
theorem HJ (f d:Nat):lW f 0 d=[]:=by cases f <;>rfl
theorem HK {f n d:Nat}(hn:n≠0)(hf:d<=f):∃ T,lW f n d=[SV.u n]::T/\(n % max d 1=0->T=[[SV.u d]])/\(n % max d 1≠0->∃ f',T=lW f' d (n % max d 1)/\n % max d 1<=f'/\n % max d 1<d):=by
 cases f with
 |zero=>
  have hd:d=0:=by omega
  subst hd;refine⟨[[SV.u 0]],by simp[lW,tL,hn],fun _=>rfl,fun h=>?_⟩;exfalso;apply h;simp[Nat.mod_one]
 |succ f=>
  by_cases h0:n % max d 1=0
  ·exact⟨[[SV.u d]],by simp[lW,tL,hn,h0],fun _=>rfl,fun h=>absurd h0 h⟩
  ·refine⟨lW f d (n % max d 1),by simp[lW,tL,hn,h0],fun h=>absurd h h0,fun _=>⟨f,rfl,?_⟩⟩;have hlt:n % max d 1<max d 1:=Nat.mod_lt _ (by omega);have hd:1<=d:=by
    rcases Nat.eq_zero_or_pos d with h|h
    ·subst h;exfalso;apply h0;simp[Nat.mod_one]
    ·exact h
   omega
theorem HL (n d:Nat):((n:Int).tmod (if(d:Int) <1 then 1 else(d:Int)))=((n % max d 1:Nat):Int):=by
 have e:(if(d:Int) <1 then(1:Int)else(d:Int))=((max d 1:Nat):Int):=by split <;>omega
 rw[e,Int.tmod_eq_emod_of_nonneg (by omega)];rfl
open Classical in
theorem ND (n0 d0:Nat):C8 Tryz.prog 142 (fun y=>[y,.ptr 1 0,.ptr 2 0]) [.cells [SV.u n0],.cells [SV.u d0]] (lW d0 n0 d0):=by
 refine LR (fun r hr hy=>?_) (fun args w=>by kernel_rfl);have hG:ConsOk Tryz.prog (Dc [] [] (itY (lW d0 n0 d0) r)):=Ek (by simp) (by simp) hy;refine⟨fun l h=>if l=[.os 0,.ptr 1 0,.ptr 2 0]/\h=[.ab (r 1),.cells [SV.u n0],.cells [SV.u d0]]then some { α:=Nat,pre:=True,post:=fun j=>j=0\/j=(lW d0 n0 d0).length+1,res:=fun j=>.ret (.tup []) [.ab (r j),.dead,.dead]}else none,
  ?_,_,if_pos ⟨rfl,rfl⟩,trivial,fun j hj=>⟨_,j,_,rfl,hj⟩⟩
 refine Bn mixed al hG (fn:=Tryz.f142) (c:=ae Tryz.f142) kr kr kr kr fun l o con h hp=>?_;split at h
 ·rename_i hlo;obtain⟨rfl,rfl⟩:=hlo;cases h;refine⟨nbl rfl,fun id st=>bif Nat.beq id 0 then some { α:=Nat×Bool,pre:=lk 0 st.t=.os 0/\lk 1 st.t=.ptr 1 0/\lk 2 st.t=.ptr 2 0/\st.h=[.ab (r 1),.cells [SV.u n0],.cells [SV.u d0]],post:=fun j=>j.1=0\/j.1=(lW d0 n0 d0).length+1,ex:=fun j=>bif j.2 then .ret else .normal,out:=fun j=>⟨[],[.ab (r j.1),.dead,.dead]⟩:LCon}else none,?_,?_⟩
  ·unfold ae Tryz.f142;simp only[ak,true_and,and_true];refine Bo mixed al hG kr fun st lc hC hp=>?_;simp only[go_sem,Nat.reduceBEq,Option.some.injEq]at hC;subst hC;obtain⟨t,h⟩:=st;dsimp only at hp;obtain⟨h0,h1,h2,rfl⟩:=hp;refine⟨Nat×Nat×Nat×Nat,fun x=>⟨[(0,.os 0),(1,.ptr 1 0),(2,.ptr 2 0)],[.ab (r (x.1+1)),.cells [SV.u x.2.2.1],.cells [SV.u x.2.2.2]]⟩,fun x=>x.2.2.2<=x.2.1/\(lW d0 n0 d0).drop x.1=lW x.2.1 x.2.2.1 x.2.2.2/\x.1<=(lW d0 n0 d0).length,fun x=>x.2.2.2,(0,d0,n0,d0),[0,1,2],⟨Nat.le_refl _,rfl,Nat.zero_le _⟩,Nat.le_refl _,?_,?_⟩
   ·simp only[go_sem,h0,h1,h2,Nat.reduceBEq,Nat.reduceLeDiff,Nat.reduceAdd,true_and,and_true];decide
   ·rintro⟨k,f,n,d⟩ ⟨hf,hdrop,hk⟩;simp only at hf hdrop hk;refine⟨L0,_,by simp only[ak,and_self],fun _ _ q=>q,?_⟩;simp only[go_sem,Ho hr,true_imp_iff,decide_eq_true_eq,HL,Bool.false_eq_true,false_imp_iff,Nat.reduceBEq,Nat.reduceLeDiff,Nat.reduceAdd,Nat.reduceSub,Nat.reduceMul,true_and,and_true,implies_true];have hget:∀ (l:List (List SV)) (j:Nat),l=(lW d0 n0 d0).drop k->(lW d0 n0 d0)[k+j]? =l[j]?:=fun l j e=>by rw[e,List.getElem?_drop]
    have hlen:(lW f n d).length=(lW d0 n0 d0).length - k:=by rw[<-hdrop,List.length_drop]
    refine⟨fun hn=>?_,fun hn=>?_⟩
    ·have hn':n≠0:=by simpa using hn
     obtain⟨T,e1,e2,e3⟩:=HK hn' hf;have hT:(lW d0 n0 d0).drop (k+1)=T:=by rw[<-List.drop_drop,hdrop,e1];rfl
     have h0':=hget _ 0 hdrop.symm;rw[e1]at h0';have hk1:k+1<=(lW d0 n0 d0).length:=by
      have:=(List.getElem?_eq_some_iff.1 h0').1;omega
     refine⟨h0',⟨fun _=>⟨by split <;>omega,rfl,fun h2=>?_,fun h2=>?_⟩,fun h2=>?_⟩,?_⟩
     ·have h3:n % max d 1=0:=by
       have:=eq_of_beq h2;generalize n % max d 1=q at this |-;omega
      have hT2:=e2 h3;have hl2:(lW d0 n0 d0).length=k+2:=by
       have:=congrArg List.length hT;rw[hT2,List.length_drop]at this;simp at this;omega
      refine⟨?_,⟨(k+1+2,true),[0,1,2],.inr (by rw[hl2]),rfl,⟨rfl,rfl,rfl⟩,by simp[xK,zq,vU,unp,ag,b_,oE,oW]⟩,⟨(0,true),[0,1,2],.inl rfl,rfl,⟨rfl,rfl,rfl⟩,by simp[xK,zq,vU,unp,ag,b_,oE,oW]⟩⟩;have:(lW d0 n0 d0)[k+1]? =T[0]?:=by rw[<-hT,List.getElem?_drop]
      rw[this,hT2];rfl
     ·have h3:n % max d 1≠0:=fun e=>by rw[e]at h2;simp at h2
      obtain⟨f',m1,m2,m3⟩:=e3 h3;exact⟨(k+1,f',d,n % max d 1),[0,1,2],⟨m2,by rw[hT,m1],hk1⟩,m3,⟨rfl,rfl,rfl⟩,by simp[xK,zq,vU,unp,ag,b_,oE,oW,nth,iC,ren,wkL,AO]⟩
     ·exact absurd hn (by rw[h2];simp)
     ·exact⟨(0,false),[0,1,2],.inl rfl,rfl,⟨rfl,rfl,rfl⟩,by simp[xK,zq,vU,unp,ag,b_,oE,oW]⟩
    ·have hn':n=0:=by simpa using hn
     subst hn';rw[HJ]at hlen;simp at hlen;exact⟨by simpa using hn,(k+1,false),[0,1,2],.inr (by show k+1=_;omega),rfl,⟨rfl,rfl,rfl⟩,by simp[xK,zq,vU,unp,ag,b_,oE,oW]⟩
  ·unfold ae Tryz.f142;simp only[go_sem,true_imp_iff,decide_eq_true_eq,Nat.reduceBEq,Nat.reduceLeDiff,Nat.reduceAdd,Nat.reduceSub,Nat.reduceMul,true_and,and_true,implies_true];rintro⟨j,b⟩ hj;cases b
   ·simp only[go_sem];exact⟨j,_,_,[0,1,2],hj,rfl,Nat.le_refl 3,by simp only[go_sem,Nat.reduceBEq,Nat.reduceLeDiff,Nat.reduceAdd,true_and,and_true];decide⟩
   ·simp only[go_sem];exact⟨j,_,_,[0,1,2],hj,rfl,Nat.le_refl 3,by simp only[go_sem,Nat.reduceBEq,Nat.reduceLeDiff,Nat.reduceAdd,true_and,and_true];decide⟩
 ·cases h
def Bx (n d:Nat):Nat:=if d=0 then n else(tL d n d).getLastD d
def C83:List SV->Option Con:=pU fun n=>pU fun d=>pE (.det (0<=n/\0<=d) (SV.u (Bx n.toNat d.toNat)))
theorem HM:FnOk Tryz.prog 88 C83:=by
 have hG:ConsOk Tryz.prog (mkG [] [(116,C90)]):=av (by simp) (by
  intro x hx;simp only[List.mem_cons,List.not_mem_nil,or_false]at hx;rcases hx with rfl;exact NC)
 refine Hc false mixed al hG (fn:=Tryz.f88) (c:=ae Tryz.f88) kr kr kr kr fun l con h hp=>?_;unfold C83 at h;obtain⟨n',l0,rfl,h0⟩:=zT h;obtain⟨d',l1,rfl,h1⟩:=zT h0;obtain⟨rfl,rfl⟩:=C7 h1;clear h h0 h1;obtain⟨hn,hd⟩:=hp;obtain⟨n,rfl⟩:=Int.eq_ofNat_of_zero_le hn;obtain⟨d,rfl⟩:=Int.eq_ofNat_of_zero_le hd;refine⟨nbl rfl,fun id st=>bif Nat.beq id 0 then some { α:=Unit,pre:=st.h=[.cells [SV.u d],.cells [SV.u n],.cells [SV.u d]]/\lk 12 st.t=.fn 142 [] [.ptr 1 0,.ptr 2 0]/\lk 4 st.t=.ptr 0 0,post:=fun _=>True,ex:=fun _=>.normal,out:=fun _=>⟨[(4,.ptr 0 0)],[.cells [SV.u ((tL d n d).getLastD d)],.dead,.dead]⟩:LCon}else none,?_,?_⟩
 ·unfold ae Tryz.f88;simp only[ak,true_and,and_true];refine Bu mixed al hG (by decide) (by decide) kr kr fun st lc hC hp=>?_;simp only[go_sem,Nat.reduceBEq,Option.some.injEq]at hC;subst hC;obtain⟨t,h⟩:=st;dsimp only at hp;obtain⟨rfl,h12,h4⟩:=hp;refine⟨142,[.ptr 1 0,.ptr 2 0],lW d n d,Nat,[(4,.ptr 0 0)],fun v=>[.cells [SV.u v],.dead,.dead],fun k v=>v=((tL d n d).take k).getLastD d,fun _ _=>False,d,[0,1,2],h12,rfl,Nat.le_refl _,?_,ND n d,?_,?_,fun _ h=>h.elim,fun _ _ h=>h.elim⟩
  ·show Sub [0,1,2] 3 ⟨t,[.cells [SV.u d],.dead,.dead]⟩ ⟨[(4,.ptr 0 0)],[.cells [SV.u d],.dead,.dead]⟩;simp only[go_sem,h4,Nat.reduceBEq,Nat.reduceLeDiff,Nat.reduceAdd,true_and,and_true];decide
  ·intro k y args hk hI;unfold lW at hk;rw[List.getElem?_map,Option.map_eq_some_iff]at hk;obtain⟨x,hx,rfl⟩:=hk;refine⟨rfl,L0,_,fun l=>by simp only[ak],fun l=>by simp only[ak],fun _ _ q=>q,?_⟩;show exec ts _ L0 _ ⟨[(13,SV.u x),(4,SV.ptr 0 0)],[.cells [SV.u y],.dead,.dead]⟩ _;simp only[go_sem,true_imp_iff,Nat.reduceBEq,Nat.reduceLeDiff,Nat.reduceAdd,true_and,and_true];refine⟨x,[0,1,2],?_,Nat.le_refl 3,?_⟩
   ·have hlt:=(List.getElem?_eq_some_iff.1 hx).1;have hx2:=(List.getElem?_eq_some_iff.1 hx).2;show x=((tL d n d).take (k+1)).getLastD d;rw[List.take_succ_eq_append_getElem hlt,hx2];simp[List.getLastD_concat]
   ·simp only[go_sem,Nat.reduceBEq,Nat.reduceLeDiff,Nat.reduceAdd,true_and,and_true];decide
  ·intro y hI;refine⟨(),[0,1,2],trivial,rfl,Nat.le_refl _,?_⟩;have hy:y=(tL d n d).getLastD d:=by rw[hI,List.take_of_length_le (by simp[lW])]
   subst hy;show Sub [0,1,2] 3 ⟨[(4,.ptr 0 0)],[.cells [SV.u _],.dead,.dead]⟩ ⟨[(4,.ptr 0 0)],[.cells [SV.u _],.dead,.dead]⟩;simp only[go_sem,Nat.reduceBEq,Nat.reduceLeDiff,Nat.reduceAdd,true_and,and_true];decide
 ·unfold ae Tryz.f88;simp only[go_sem,C90,true_imp_iff,decide_eq_true_eq,Bool.false_eq_true,false_imp_iff,Nat.reduceBEq,Nat.reduceLeDiff,Nat.reduceAdd,Nat.reduceSub,Nat.reduceMul,true_and,and_true,implies_true];refine⟨fun h=>?_,fun h _ _=>?_⟩
  ·have h':d=0:=by simpa using h
   simp[Bx,h']
  ·have h':d≠0:=by simpa using h
   simp[Bx,h']
attribute [go_sem] C83
end Go.Sx
end
section
namespace Go.Sx
open Go.RowKit
inductive NilS:St->St->Prop where
 |refl (st:St):NilS st st
 |cell {st:St} {t:List (Nat×SV)} {h:List Ob} {i j:Nat} {l:List SV} (o:Ob):NilS st ⟨t,h⟩->ag h i=.cells l->l[j]? =some (.v (.slice none 0 0))->((∃ k,o=.row k [])\/∃ k,o=.grid k [])->NilS st ⟨t,bp h i (.cells (l.set j (.os h.length)))++[o]⟩
 |slot {st:St} {t:List (Nat×SV)} {h:List Ob} {i:Nat} (o:Ob):NilS st ⟨t,h⟩->lk i t=.v (.slice none 0 0)->((∃ k,o=.row k [])\/∃ k,o=.grid k [])->NilS st ⟨(i,.os h.length)::t,h++[o]⟩
 |slotE {st:St} {t:List (Nat×SV)} {h:List Ob} {i:Nat} (k:Tag):NilS st ⟨t,h⟩->lk i t=.e0->NilS st ⟨(i,.os h.length)::t,h++[.row k []]⟩
section
variable {P:Program}{F:Nat->Prop}{w0:Bs}{N:Nat}
theorem yO (h:List Ob)(o:Ob):ag (h++[o]) h.length=o:=by rw[ll,if_neg (by omega)];simp[ag]
theorem El {own:Own}{h:List Ob}{a:Act}{w:World}{t:List (Nat×SV)}(hr:StRel F w0 N own ⟨t,h⟩ a w)(o:Ob)(ho:(∃ k,o=.row k [])\/∃ k,o=.grid k []):
  ∃ own',StRel F w0 N own' ⟨t,h++[o]⟩ a w/\(∀ id hd,own id=some hd->own' id=some hd)/\own' h.length=some { v:=.slice none 0 0}:=by
 let own':Own:=fun id=>if id=h.length then some { v:=.slice none 0 0}else own id
 have hsub:∀ id hd,own id=some hd->own' id=some hd:=fun id hd e=>by
  have:id≠h.length:=by have:=hr.hp.dom id hd e;simp only at this;omega
  simp only[own',if_neg this];exact e
 have hinv:∀ id hd b,own' id=some hd->b∈hd.bs->own id=some hd:=fun id hd b e hb=>by
  by_cases hi:id=h.length
  ·simp only[own',if_pos hi,Option.some.injEq]at e;subst e;cases hb
  ·simpa only[own',if_neg hi]using e
 have hc:Carries F own w F own' w:=⟨fun id hd e=>⟨hd,hsub id hd e,.refl _⟩,fun b _ hn=>⟨by
  rintro (hf| ⟨id,hd,e,hb⟩)
  ·exact hn (.inl hf)
  ·exact hn (.inr ⟨id,hd,hinv id hd b e hb,hb⟩),rfl⟩⟩
 refine⟨own',⟨hr.size,hr.defers,⟨fun id hd e=>?_,hr.hp.foreign,fun id hd b e hb=>hr.hp.apart id hd b (hinv id hd b e hb) hb,fun i j hi hj b e1 e2 b1 b2=>hr.hp.inj i j hi hj b (hinv i hi b e1 b1) (hinv j hj b e2 b2) b1 b2,fun id hd b e hb=>hr.hp.lt id hd b (hinv id hd b e hb) hb,fun id hd=>?_⟩,
  ⟨fun id hd e=>?_,fun id hd b e hb=>hr.fr.base id hd b (hinv id hd b e hb) hb,hr.fr.os,hr.fr.tape,hr.fr.output,hr.fr.size,hr.fr.block⟩,fun t=>(hr.slots t).carry hc⟩,hsub,by simp[own']⟩
 ·simp only[List.length_append,List.length_cons,List.length_nil];by_cases hi:id=h.length
  ·omega
  ·simp only[own',if_neg hi]at e;have:=hr.hp.dom id hd e;simp only at this;omega
 ·simp only at hd |-;by_cases hi:id<h.length
  ·rw[ll,if_pos hi]at hd |-;obtain⟨hd',e1,e2⟩:=hr.hp.obs id hd;exact⟨hd',hsub id hd' e1,e2.carry hc (Nat.le_refl _) fun _ _=>rfl⟩
  ·by_cases hi2:id=h.length
   ·subst hi2;rw[yO];refine⟨_,by simp[own'];rfl,?_⟩;rcases ho with⟨k,rfl⟩ | ⟨k,rfl⟩
    ·exact .inl ⟨none,rfl,rfl,rfl⟩
    ·exact .inl ⟨rfl,rfl,rfl,rfl⟩
   ·rw[iR (by simp;omega)]at hd;cases hd
 ·obtain⟨hd',e1,e2⟩:=hr.fr.ids id hd e;exact⟨hd',hsub id hd' e1,e2⟩
theorem HN {own:Own}{h:List Ob}{a:Act}{w:World}{t:List (Nat×SV)}(hr:StRel F w0 N own ⟨t,h⟩ a w)(k:Tag)(ad:Option Addr):
  ∃ own',StRel F w0 N own' ⟨t,h++[.row k []]⟩ a w/\(∀ id hd,own id=some hd->own' id=some hd)/\own' h.length=some { v:=.slice ad 0 0}:=by
 let own':Own:=fun id=>if id=h.length then some { v:=.slice ad 0 0}else own id
 have hsub:∀ id hd,own id=some hd->own' id=some hd:=fun id hd e=>by
  have:id≠h.length:=by have:=hr.hp.dom id hd e;simp only at this;omega
  simp only[own',if_neg this];exact e
 have hinv:∀ id hd b,own' id=some hd->b∈hd.bs->own id=some hd:=fun id hd b e hb=>by
  by_cases hi:id=h.length
  ·simp only[own',if_pos hi,Option.some.injEq]at e;subst e;cases hb
  ·simpa only[own',if_neg hi]using e
 have hc:Carries F own w F own' w:=⟨fun id hd e=>⟨hd,hsub id hd e,.refl _⟩,fun b _ hn=>⟨by
  rintro (hf| ⟨id,hd,e,hb⟩)
  ·exact hn (.inl hf)
  ·exact hn (.inr ⟨id,hd,hinv id hd b e hb,hb⟩),rfl⟩⟩
 refine⟨own',⟨hr.size,hr.defers,⟨fun id hd e=>?_,hr.hp.foreign,fun id hd b e hb=>hr.hp.apart id hd b (hinv id hd b e hb) hb,fun i j hi hj b e1 e2 b1 b2=>hr.hp.inj i j hi hj b (hinv i hi b e1 b1) (hinv j hj b e2 b2) b1 b2,fun id hd b e hb=>hr.hp.lt id hd b (hinv id hd b e hb) hb,fun id hd=>?_⟩,
  ⟨fun id hd e=>?_,fun id hd b e hb=>hr.fr.base id hd b (hinv id hd b e hb) hb,hr.fr.os,hr.fr.tape,hr.fr.output,hr.fr.size,hr.fr.block⟩,fun t=>(hr.slots t).carry hc⟩,hsub,by simp[own']⟩
 ·simp only[List.length_append,List.length_cons,List.length_nil];by_cases hi:id=h.length
  ·omega
  ·simp only[own',if_neg hi]at e;have:=hr.hp.dom id hd e;simp only at this;omega
 ·simp only at hd |-;by_cases hi:id<h.length
  ·rw[ll,if_pos hi]at hd |-;obtain⟨hd',e1,e2⟩:=hr.hp.obs id hd;exact⟨hd',hsub id hd' e1,e2.carry hc (Nat.le_refl _) fun _ _=>rfl⟩
  ·by_cases hi2:id=h.length
   ·subst hi2;rw[yO];refine⟨_,by simp[own'];rfl,?_⟩;exact .inl ⟨ad,rfl,rfl,rfl⟩
   ·rw[iR (by simp;omega)]at hd;cases hd
 ·obtain⟨hd',e1,e2⟩:=hr.fr.ids id hd e;exact⟨hd',hsub id hd' e1,e2⟩
theorem NilS.rel {st st':St}(hn:NilS st st'){own:Own}{a:Act}{w:World}(hr:StRel F w0 N own st a w):∃ own',StRel F w0 N own' st' a w:=by
 induction hn with
 |refl=>exact⟨own,hr⟩
 | @slot t h i o _ hl ho ih=>
  obtain⟨own1,h1⟩:=ih;obtain⟨own2,h2,h3,h4⟩:=El h1 o ho;refine⟨own2,h2.size,h2.defers,h2.hp,h2.fr,fun u=>?_⟩;rw[kp];split
  ·rename_i e;subst e;have:=h1.slots i;rw[hl]at this;rw[bv this];exact .os (hd:= { v:=.slice none 0 0}) h4 rfl
  ·exact h2.slots u
 | @slotE t h i k _ hl ih=>
  obtain⟨own1,h1⟩:=ih;have hs:=h1.slots i;rw[hl]at hs;generalize hv:a.tmps.getD i undef=v at hs;cases hs with
  | @e0 ad=>
   obtain⟨own2,h2,h3,h4⟩:=HN h1 k ad;refine⟨own2,h2.size,h2.defers,h2.hp,h2.fr,fun u=>?_⟩;rw[kp];split
   ·rename_i e;subst e;rw[hv];exact .os (hd:= { v:=.slice ad 0 0}) h4 rfl
   ·exact h2.slots u
 | @cell t h i j l o _ hc hl ho ih=>
  obtain⟨own1,h1⟩:=ih;obtain⟨own2,h2,h3,h4⟩:=El h1 o ho;have hlt:i<h.length:=by
   rcases Nat.lt_or_ge i h.length with h'|h'
   ·exact h'
   ·rw[iR h']at hc;cases hc
  have hlen:(bp h i (.cells (l.set j (.os h.length)))).length=h.length:=by rw[bD,if_pos hlt]
  refine⟨own2,h2.size,h2.defers,⟨fun id hd e=>?_,h2.hp.foreign,h2.hp.apart,h2.hp.inj,h2.hp.lt,fun id hd=>?_⟩,h2.fr,h2.slots⟩
  ·have:=h2.hp.dom id hd e;simp only[List.length_append]at this |-;rw[hlen];exact this
  ·simp only at hd |-;have hob:=h2.hp.obs id;simp only at hob;by_cases hi:id<h.length
   ·rw[ll,if_pos (by rw[hlen];exact hi)]at hd |-;rw[ll,if_pos hi]at hob;rw[cg]at hd |-;by_cases hii:i=id
    ·subst hii;rw[if_pos rfl]at hd |-;rw[hc]at hob;obtain⟨hd',e1,b,cs,ty,m1,m2,m3,m4,m5⟩:=hob rfl;refine⟨hd',e1,b,cs,ty,m1,m2,m3,by simpa using m4,fun j' s hs=>?_⟩;rw[List.getElem?_set]at hs;by_cases hj:j=j'
     ·subst hj;rw[if_pos rfl]at hs;split at hs
      ·cases hs;have:=m5 j _ hl;rw[bv this];exact .os (hd:= { v:=.slice none 0 0}) h4 rfl
      ·cases hs
     ·rw[if_neg hj]at hs;exact m5 j' s hs
    ·rw[if_neg hii]at hd |-;exact hob hd
   ·rw[ll,if_neg (by rw[hlen];exact hi),hlen]at hd |-;rw[ll,if_neg hi]at hob;exact hob hd
end
section
variable {P:Program}{F:Nat->Prop}{w0:Bs}{ro:Option Nat}{nd:Nat}{ts:Tis}{G:Cons}{L:oV}{N:Nat}
theorem sr {ts:Tis}{G:Cons}{ro:Option Nat}{N:Nat}(hm:P.follows .mixedOrders=true)(hts:ts.ok P)(hG:ConsOk P G){id:Nat}{c:Code}(hc:cj N c=true){C:St->Option LCon}
  (h:∀ st lc,C st=some lc->lc.pre->∃ (σ:Type) (D:σ->St) (I:σ->Prop) (m:σ->Nat) (x0:σ) (stN:St) (js:List Nat),I x0/\NilS st stN/\st.h.length<=(D x0).h.length/\Sub js st.h.length stN (D x0)/\
   ∀ x,I x->∃ L Qx,ak P ro N L c/\(∀ e st',Qx e st'->oG D I m st.h.length x id (fun e st'=>∃ r js,lc.post r/\lc.ex r=e/\st.h.length<=(lc.out r).h.length/\Sub js st.h.length st' (lc.out r)) e st')/\exec ts G L c (D x) Qx):iG P ro N id (.loop c) C:=by
 intro nd F w0 st lc hC hpre own a w hr;obtain⟨σ,D,I,m,x0,stN,js,h1,hN,h2,h3,h4⟩:=h st lc hC hpre;obtain⟨ownN,hrN⟩:=hN.rel hr;refine wpIn_mono (yI hm hts hG hc D I m st.h.length hr.base_lt _ h4 x0 h1 _ a w (hrN.sub h3 hr.base_lt h2)) ?_;intro e a' w' hq;have key:∀ ex F1 own' st',StRel F1 w0 N own' st' a' w'->(∃ r js,lc.post r/\lc.ex r=ex/\st.h.length<=(lc.out r).h.length/\Sub js st.h.length st' (lc.out r))->∃ own2 st2,StRel F1 w0 N own2 st2 a' w'/\∃ r,lc.post r/\ex=lc.ex r/\st2=lc.out r:=by
  rintro ex F1 own' st' hst ⟨r,js,q1,q2,q3,q4⟩;exact⟨_,_,hst.sub q4 hr.base_lt q3,r,q1,q2.symm,rfl⟩
 cases e with
 |normal=>obtain⟨F1,own',st',h0,k1,k2⟩:=hq;obtain⟨own2,st2,q1,q2⟩:=key _ F1 own' st' k1 k2;exact⟨F1,own2,st2,h0,q1,q2⟩
 |exit j=>obtain⟨F1,own',st',h0,k1,k2⟩:=hq;obtain⟨own2,st2,q1,q2⟩:=key _ F1 own' st' k1 k2;exact⟨F1,own2,st2,h0,q1,q2⟩
 |ret=>obtain⟨F1,own',st',h0,k1,k2⟩:=hq;obtain⟨own2,st2,q1,q2⟩:=key _ F1 own' st' k1 k2;exact⟨F1,own2,st2,h0,q1,q2⟩
 |panic ch=>
  obtain⟨x,F1,own',st',h0,k1,k2,k3⟩:=hq;obtain⟨own2,st2,q1,q2⟩:=key _ F1 own' st' k1 k2;exact⟨x,F1,own2,st2,h0,q1,q2,k3⟩
 |_=>exact hq.elim
end
section
variable {P:Program}{ρ σ:Type}
def fN (st2:St)(n0:Nat)(st:St):Prop:= ∃ js,n0<=st2.h.length/\Sub js n0 st st2
theorem zY {st2 st:St}{n0:Nat}(js:List Nat)(h1:n0<=st2.h.length)(h2:Sub js n0 st st2):fN st2 n0 st:=⟨js,h1,h2⟩
def n8 (D:Nat->σ->St)(n0 k:Nat)(st:St):ρ⊕σ->Prop
 | .inl _=>False
 | .inr s'=>fN (D (k+1) s') n0 st
def jM (exE:ρ->Ex)(outE:ρ->St)(n0:Nat)(e:Ex)(st:St):ρ⊕σ->Prop
 | .inl x=>exE x=e/\fN (outE x) n0 st
 | .inr _=>False
def cE (step:Nat->σ->ρ⊕σ)(n:Nat)(exE:ρ->Ex)(outE:ρ->St)(outN:σ->St)(D:Nat->σ->St)(n0 id k:Nat)(s:σ):Ex->St->Prop
 | .normal,st=>k<n/\n8 D n0 k st (step k s)
 | .exit j,st=>bif Nat.beq j id then(n<=k->fN (outN s) n0 st)/\(k<n->jM exE outE n0 .normal st (step k s))else k<n/\jM exE outE n0 (.exit j) st (step k s)
 | .ret,st=>k<n/\jM exE outE n0 .ret st (step k s)
 | .pan x,st=>k<n/\jM exE outE n0 (.pan x) st (step k s)
variable {step:Nat->σ->ρ⊕σ}{n n0 id k j:Nat}{exE:ρ->Ex}{outE:ρ->St}{outN:σ->St}{D:Nat->σ->St}{s s':σ}{st:St}{x:Value}{e:Ex}{y:ρ}
@[go_sem] theorem P2:n8 (ρ:=ρ) D n0 k st (.inr s')=fN (D (k+1) s') n0 st:=(rfl)
@[go_sem] theorem RP:jM (σ:=σ) exE outE n0 e st (.inl y)=(exE y=e/\fN (outE y) n0 st):=(rfl)
@[go_sem] theorem P3:cE step n exE outE outN D n0 id k s .normal st=(k<n/\n8 D n0 k st (step k s)):=(rfl)
@[go_sem] theorem TJ:cE step n exE outE outN D n0 id k s (.exit j) st=bif Nat.beq j id then(n<=k->fN (outN s) n0 st)/\(k<n->jM exE outE n0 .normal st (step k s))else k<n/\jM exE outE n0 (.exit j) st (step k s):=(rfl)
@[go_sem] theorem UA:cE step n exE outE outN D n0 id k s .ret st=(k<n/\jM exE outE n0 .ret st (step k s)):=(rfl)
@[go_sem] theorem UB:cE step n exE outE outN D n0 id k s (.pan x) st=(k<n/\jM exE outE n0 (.pan x) st (step k s)):=(rfl)
@[congr] theorem LX {r r':ρ⊕σ}(h:r=r'):n8 D n0 k st r=n8 D n0 k st r':=by rw[h]
end
def dW (p:Prop)(S:SV)(H:List Ob):HCon:= { α:=Unit,pre:=p,post:=fun _=>True,res:=fun _=>.ret S H}
def Dd (n0:Nat)(S:SV)(H:List Ob)(h:List Ob):Option SV->Prop
 |some s=>fN ⟨[(0,S)],H⟩ n0 ⟨[(0,s)],h⟩
 |none=>False
def HO (n0:Nat)(rs:List ResultVar)(ts:Tis)(S:SV)(H:List Ob):Ex->St->Prop
 | .exit _,_=>False
 | .normal,st=>Dd n0 S H st.h (kh (jm ts st rs))
 | .ret,st=>Dd n0 S H st.h (kh (jm ts st rs))
 | .pan _,_=>False
section
variable {P:Program}{ts:Tis}{G:Cons}{n0:Nat}{S s:SV}{H h:List Ob}{rs:List ResultVar}{st:St}{x:Value}{j:Nat}
@[go_sem] theorem P4:Dd n0 S H h (some s)=fN ⟨[(0,S)],H⟩ n0 ⟨[(0,s)],h⟩:=(rfl)
@[go_sem] theorem KC:HO n0 rs ts S H .normal st=Dd n0 S H st.h (kh (jm ts st rs)):=(rfl)
@[go_sem] theorem P5:HO n0 rs ts S H .ret st=Dd n0 S H st.h (kh (jm ts st rs)):=(rfl)
@[go_sem high] theorem NE {p:Prop}{ids:List Nat}{d:Option Nat}{K:St->Prop}{Z:Value->St->Prop}:rV ids d st K Z (some (dW p S H))=(p/\Cn ids d st K Z (.ret S H)):=by
 show(p/\∀ r:Unit,True->Cn ids d st K Z (.ret S H))=_;simp
def hCR (t:Tag)(k:List t.T->Option HCon):List Ob->Option HCon
 | [.cells [.os 1],.row k' l] =>if h:k'=t then k (h▸l)else none
 |_=>none
open Classical in
noncomputable def pQ {α:Type 1}(X:SV)(k:List SV->Option α):List SV->Option α
 |s::r=>if s=X then k r else none
 | [] =>none
@[go_sem] theorem pQ_mk {α:Type 1}{X:SV}{k:List SV->Option α}{r:List SV}:pQ X k (X::r)=k r:=by simp[pQ]
theorem NF {α:Type 1}{X:SV}{k:List SV->Option α}{l:List SV}{c:α}(h:pQ X k l=some c):∃ r,l=X::r/\k r=some c:=by
 unfold pQ at h;split at h
 ·split at h
  ·rename_i e;subst e;exact⟨_,rfl,h⟩
  ·cases h
 ·cases h
def pXR {α:Type 1}(t:Tag)(k:List t.T->List SV->Option α):List SV->Option α
 | .ep [.rs k' l] 0::r=>yL t k r k' l
 |_=>none
@[go_sem] theorem UC {α:Type 1}{t:Tag}{k:List t.T->List SV->Option α}{l:List t.T}{r:List SV}:pXR t k (.ep [.rs t l] 0::r)=k l r:=by simp[pXR,yL]
theorem KD {α:Type 1}{t:Tag}{k:List t.T->List SV->Option α}{l:List SV}{c:α}(h:pXR t k l=some c):∃ x r,l=.ep [.rs t x] 0::r/\k x r=some c:=by
 unfold pXR at h;split at h
 ·rename_i k' l' r;unfold yL at h;split at h
  ·rename_i e;subst e;exact⟨_,_,rfl,h⟩
  ·cases h
 ·cases h
theorem fO (hm:P.follows .mixedOrders=true) (hts:ts.ok P) (hG:ConsOk P G) {f:FuncId} {fn:Func} {c:Code} (hf:P.funcs[f]? =some fn) (hb:fn.body=some c) (hname:(fn.name== "runtime.NumGoroutine")=false)
  (hc:cj fn.ntmps c=true) {C:List SV->List Ob->Option HCon}
  (h:∀ l o con,C l o=some con->∃ p S H,con=dW p S H/\(p->l.length<=fn.ntmps/\∃ L,ak P none fn.ntmps L c/\exec ts G L c ⟨jF 0 l,o⟩ (HO o.length fn.results.toList ts S H))):FnOkO P f C:=by
 refine wE hm hts hG hf hb hname hc fun l o con hC hp=>?_;obtain⟨p,S,H,rfl,h2⟩:=h l o con hC;obtain⟨h3,L,h4,h5⟩:=h2 hp;refine⟨h3,L,_,h4,fun e st hq=>?_,h5⟩;cases e with
 |normal=>
  change Dd _ _ _ _ _ at hq;show rX _ _ _ _;cases hs:kh (jm ts st fn.results.toList)with
  |none=>rw[hs]at hq;exact hq.elim
  |some s=>rw[hs]at hq;obtain⟨js,q1,q2⟩:=hq;exact⟨(),S,H,js,trivial,rfl,q1,q2⟩
 |ret=>
  change Dd _ _ _ _ _ at hq;show rX _ _ _ _;cases hs:kh (jm ts st fn.results.toList)with
  |none=>rw[hs]at hq;exact hq.elim
  |some s=>rw[hs]at hq;obtain⟨js,q1,q2⟩:=hq;exact⟨(),S,H,js,trivial,rfl,q1,q2⟩
 |exit j=>exact hq.elim
 |pan x=>exact hq.elim
end
end Go.Sx
end
section
namespace Go.Sx
attribute [go_sem] true_imp_iff false_imp_iff Bool.false_eq_true Int.toNat_natCast Int.toNat_zero true_and and_true and_self implies_true forall_const
theorem cl {p:Prop}(h:p:=by(first|done|(repeat' (first|with_reducible refine And.intro ?_ ?_|((with_reducible show _≠_);first|assumption|omega|(simp_all [cO,dK];done) |grind) |with_reducible intro _)) <;>(first|done|with_reducible exact Empty.elim ‹Empty› |with_reducible assumption|rfl|omega|assumption|(simp only[*,cond_true,cond_false,Bool.not_true,Bool.not_false,go_sem,Nat.reduceBEq,Nat.reduceLeDiff,Nat.reduceAdd,Nat.reduceSub,Nat.reduceMul,Int.reduceLE,Int.reduceLT,Int.reduceToNat,Int.reduceNeg,reduceCtorEq];done) |(simp only[*,cond_true,cond_false,Bool.not_true,Bool.not_false,go_sem,Nat.reduceBEq,Nat.reduceLeDiff,Nat.reduceAdd,Nat.reduceSub,Nat.reduceMul,Int.reduceLE,Int.reduceLT,Int.reduceToNat,Int.reduceNeg,reduceCtorEq];(repeat' (first|with_reducible refine And.intro ?_ ?_|((with_reducible show _≠_);first|assumption|omega|(simp_all [cO,dK];done) |grind) |with_reducible intro _)) <;>(first|done|assumption|rfl|omega|(simp_all [cO,dK];done))) |(simp_all [okI,cO,dK];done) |grind))):p:=h
theorem cl2 {p:Prop}(h:p:=by(first|done|(repeat' (first|with_reducible refine And.intro ?_ ?_|((with_reducible show _≠_);first|assumption|omega|(simp_all [cO,dK];done) |grind) |with_reducible intro _)) <;>(first|done|with_reducible exact Empty.elim ‹Empty› |with_reducible assumption|rfl|omega|assumption|(simp only[*,go_sem,Nat.reduceBEq,Nat.reduceLeDiff,Nat.reduceAdd,Nat.reduceSub,Nat.reduceMul,Int.reduceLE,Int.reduceLT,Int.reduceToNat,Int.reduceNeg,reduceCtorEq];done) |(simp_all [cO,dK];done)))):p:=h
inductive JL:List Nat->Prop
 |mk (l:List Nat):JL l
theorem jl (l:List Nat):JL l:=.mk l
theorem fk {st2 st:St}{n0:Nat}{js:List Nat}(_:JL js)(h1:n0<=st2.h.length:=by(first|(show _<=_;decide) |(simp only[*,go_sem,Nat.reduceBEq,Nat.reduceLeDiff,Nat.reduceAdd,Nat.reduceSub,Nat.reduceMul,Int.reduceLE,Int.reduceLT,Int.reduceToNat,Int.reduceNeg,reduceCtorEq];done) |(simp only[*,go_sem,Nat.reduceBEq,Nat.reduceLeDiff,Nat.reduceAdd,Nat.reduceSub,Nat.reduceMul,Int.reduceLE,Int.reduceLT,Int.reduceToNat,Int.reduceNeg,reduceCtorEq];(repeat' (first|with_reducible refine And.intro ?_ ?_|((with_reducible show _≠_);first|assumption|omega|(simp_all [cO,dK];done) |grind) |with_reducible intro _)) <;>(first|rfl|decide|assumption|omega|(simp_all [cO,dK];done)))))(h2:Sub js n0 st st2:=by(first|(show _<=_;decide) |(simp only[*,go_sem,Nat.reduceBEq,Nat.reduceLeDiff,Nat.reduceAdd,Nat.reduceSub,Nat.reduceMul,Int.reduceLE,Int.reduceLT,Int.reduceToNat,Int.reduceNeg,reduceCtorEq];done) |(simp only[*,go_sem,Nat.reduceBEq,Nat.reduceLeDiff,Nat.reduceAdd,Nat.reduceSub,Nat.reduceMul,Int.reduceLE,Int.reduceLT,Int.reduceToNat,Int.reduceNeg,reduceCtorEq];(repeat' (first|with_reducible refine And.intro ?_ ?_|((with_reducible show _≠_);first|assumption|omega|(simp_all [cO,dK];done) |grind) |with_reducible intro _)) <;>(first|rfl|decide|assumption|omega|(simp_all [cO,dK];done))))):fN st2 n0 st:=zY js h1 h2
theorem fk2 {st2 st:St}{n0:Nat}{js:List Nat}(_:JL js)(h1:n0<=st2.h.length:=by(first|(show _<=_;decide) |(simp only[go_sem,Nat.reduceBEq,Nat.reduceLeDiff,Nat.reduceAdd,Nat.reduceSub,Nat.reduceMul,Int.reduceLE,Int.reduceLT,Int.reduceToNat,Int.reduceNeg,reduceCtorEq];(repeat' (first|with_reducible refine And.intro ?_ ?_|((with_reducible show _≠_);first|assumption|omega|(simp_all [cO,dK];done) |grind) |with_reducible intro _)) <;>(first|rfl|decide|assumption|omega|(simp_all [cO,dK];done)))))(h2:Sub js n0 st st2:=by(first|(show _<=_;decide) |(simp only[go_sem,Nat.reduceBEq,Nat.reduceLeDiff,Nat.reduceAdd,Nat.reduceSub,Nat.reduceMul,Int.reduceLE,Int.reduceLT,Int.reduceToNat,Int.reduceNeg,reduceCtorEq];(repeat' (first|with_reducible refine And.intro ?_ ?_|((with_reducible show _≠_);first|assumption|omega|(simp_all [cO,dK];done) |grind) |with_reducible intro _)) <;>(first|rfl|decide|assumption|omega|(simp_all [cO,dK];done))))):fN st2 n0 st:=zY js h1 h2
theorem cg0 {α:Type _}{p:α->Prop}:∀ x∈([]:List α),p x:=fun _ h=>by cases h
theorem cgc {α:Type _}{p:α->Prop}{a:α}{l:List α}(h:p a)(t:∀ x∈l,p x):∀ x∈a::l,p x:=fun x hx=>by
 rcases List.mem_cons.1 hx with rfl|hx
 ·exact h
 ·exact t x hx
attribute [go_sem] if_true
end Go.Sx
end
section
namespace Go.Sx
open Go.RowKit
open IntKind (i64)
section
variable {P:Program}
end
def okL {ρ σ τ:Type}(step:τ->σ->ρ⊕σ)(p:τ->σ->Prop):List τ->σ->Prop
 | [],_=>True
 |x::l,s=>p x s/\∀ s',step x s=.inr s'->okL step p l s'
section
variable {ρ σ τ:Type}
def rgN (T:List (Nat×SV))(H:σ->List Ob)(n0:Nat)(st:St):ρ⊕σ->Prop
 | .inl _=>False
 | .inr s'=>fN ⟨T,H s'⟩ n0 ⟨T,st.h⟩
def rgX (exE:ρ->Ex)(T:List (Nat×SV))(Hy:ρ->List Ob)(n0:Nat)(e:Ex)(st:St):ρ⊕σ->Prop
 | .inl y=>exE y=e/\fN ⟨T,Hy y⟩ n0 ⟨T,st.h⟩
 | .inr _=>False
def rgQ (step:τ->σ->ρ⊕σ)(exE:ρ->Ex)(T:List (Nat×SV))(H:σ->List Ob)(Hy:ρ->List Ob)(n0 id:Nat)(x:τ)(s:σ):Ex->St->Prop
 | .normal,st=>rgN T H n0 st (step x s)
 | .exit j,st=>rgX exE T Hy n0 (bif Nat.beq j id then .normal else .exit j) st (step x s)
 | .ret,st=>rgX exE T Hy n0 .ret st (step x s)
 | .pan _,_=>False
variable {step:τ->σ->ρ⊕σ}{exE:ρ->Ex}{T:List (Nat×SV)}{H:σ->List Ob}{Hy:ρ->List Ob}{n0 id j:Nat}{x:τ}{s s':σ}{y:ρ}{st:St}{e:Ex}
@[go_sem] theorem TK:rgN (ρ:=ρ) T H n0 st (.inr s')=fN ⟨T,H s'⟩ n0 ⟨T,st.h⟩:=(rfl)
@[go_sem] theorem TL:rgX (σ:=σ) exE T Hy n0 e st (.inl y)=(exE y=e/\fN ⟨T,Hy y⟩ n0 ⟨T,st.h⟩):=(rfl)
@[go_sem] theorem NG:rgQ step exE T H Hy n0 id x s .normal st=rgN T H n0 st (step x s):=(rfl)
@[go_sem] theorem TM:rgQ step exE T H Hy n0 id x s .ret st=rgX exE T Hy n0 .ret st (step x s):=(rfl)
@[go_sem] theorem RQ:rgQ step exE T H Hy n0 id x s (.exit j) st=rgX exE T Hy n0 (bif Nat.beq j id then .normal else .exit j) st (step x s):=(rfl)
@[congr] theorem P6 {r r':ρ⊕σ}(h:r=r'):rgN T H n0 st r=rgN T H n0 st r':=by rw[h]
end
section
variable {P:Program}{ts:Tis}{G:Cons}{N:Nat}
theorem Fz (hm:P.follows .mixedOrders=true)(hts:ts.ok P)(hG:ConsOk P G){id:Nat}{g:Operand}{ps:Array Tmp}{assign body:Code}{C:St->Option LCon}
  (hpn:ps.toList.Nodup) (hpN:∀ p∈ps.toList,p<N) (hca:cj N assign=true) (hcb:cj N body=true)
  (h:∀ st lc,C st=some lc->lc.pre->∃ (f:FuncId) (caps:List SV) (τ ρ σ:Type) (l:List τ) (mk:τ->List SV) (step:τ->σ->ρ⊕σ) (p:τ->σ->Prop) (pre:Prop) (s0:σ) (exE:ρ->Ex) (outE:ρ->St) (outN:σ->St) (T:List (Nat×SV)) (H:σ->List Ob) (Hy:ρ->List Ob) (js:List Nat),
   raw st.t g=.fn f [] caps/\lc=LC pre (fJ step l s0) exE outE outN/\okL step p l s0/\st.h.length<=(H s0).length/\Sub js st.h.length ⟨st.t,sq (kw st caps) st.h⟩ ⟨T,H s0⟩/\
   C8 P f (fun y=>y::caps.map (ren (C_ (kw st caps)) 3)) (Bt (kw st caps) st.h) (l.map mk)/\
   (∀ x s,p x s->(mk x).length=ps.size/\∃ L,(∀ l,ak P (some l) N L assign)/\(∀ l,ak P (some l) N L body)/\exec ts G L assign ⟨psT ps.toList (mk x)++T,H s⟩ (fun e st1=>e=.normal/\exec ts G L body st1 (rgQ step exE T H Hy st.h.length id x s)))/\
   (∀ s,fN (outN s) st.h.length ⟨T,H s⟩)/\∀ y,fN (outE y) st.h.length ⟨T,Hy y⟩):iG P none N id (.rangeFunc g ps assign body) C:=by
 refine Bu hm hts hG hpn hpN hca hcb fun st lc hC hp=>?_;obtain⟨f,caps,τ,ρ,σ,l,mk,step,p,pre,s0,exE,outE,outN,T,H,Hy,js,h1,rfl,h2,h3,h4,h5,h6,h7,h8⟩:=h st lc hC hp;refine⟨f,caps,l.map mk,σ⊕ρ,T,fun z=>match z with| .inl s=>H s| .inr y=>Hy y,fun k z=>match z with| .inl s=>fJ step (l.drop k) s=fJ step l s0/\okL step p (l.drop k) s| .inr _=>False,
  fun e z=>match z with| .inl _=>False| .inr y=>fJ step l s0=.inl y/\(match e with| .ret=>exE y=.ret| .exit j=>exE y=(bif Nat.beq j id then .normal else .exit j) |_=>False),.inl s0,js,h1,⟨rfl,h2⟩,h3,h4,h5,?_,?_,?_,?_⟩
 ·rintro k z args hk hI;cases z with
  |inr y=>exact hI.elim
  |inl s=>
   obtain⟨hrun,hok⟩:=hI;rw[List.getElem?_map,Option.map_eq_some_iff]at hk;obtain⟨x,hx,rfl⟩:=hk;have hlt:=(List.getElem?_eq_some_iff.1 hx).1;have hd:l.drop k=x::l.drop (k+1):=by
    rw[List.drop_eq_getElem_cons hlt];congr 1;exact(List.getElem?_eq_some_iff.1 hx).2
   rw[hd]at hrun hok;obtain⟨hl,L,hla,hlb,hex⟩:=h6 x s hok.1;refine⟨hl,L,_,hla,hlb,?_,hex⟩;intro e st' hq;have fin:∀ e',rgX exE T Hy st.h.length e' st' (step x s)->∃ y js,exE y=e'/\fJ step l s0=.inl y/\st.h.length<=(Hy y).length/\Sub js st.h.length ⟨T,st'.h⟩ ⟨T,Hy y⟩:=by
    intro e' q;cases hs:step x s with
    |inr s'=>rw[hs]at q;exact q.elim
    |inl y=>
     rw[hs]at q;obtain⟨q1,js,q2,q3⟩:=q;simp only[fJ,hs]at hrun;exact⟨y,js,q1,hrun.symm,q2,q3⟩
   cases e with
   |normal=>
    change rgN T H st.h.length st' (step x s)at hq;cases hs:step x s with
    |inl y=>rw[hs]at hq;exact hq.elim
    |inr s'=>
     rw[hs]at hq;obtain⟨js,q1,q2⟩:=hq;simp only[fJ,hs]at hrun;exact⟨.inl s',js,⟨hrun,hok.2 s' hs⟩,q1,q2⟩
   |exit j=>
    obtain⟨y,js,q1,q2,q3,q4⟩:=fin _ hq;exact⟨.inr y,js,⟨q2,q1⟩,q3,q4⟩
   |ret=>
    obtain⟨y,js,q1,q2,q3,q4⟩:=fin _ hq;exact⟨.inr y,js,⟨q2,q1⟩,q3,q4⟩
   |pan x=>exact hq.elim
 ·intro z hI;cases z with
  |inr y=>exact hI.elim
  |inl s=>
   obtain⟨js,q1,q2⟩:=h7 s;have:=hI.1;rw[List.length_map,List.drop_length]at this;exact⟨.inr s,js,this,rfl,q1,q2⟩
 ·intro z hS;cases z with
  |inl s=>exact hS.elim
  |inr y=>
   obtain⟨js,q1,q2⟩:=h8 y;exact⟨.inl y,js,hS.1.symm,hS.2,q1,q2⟩
 ·intro j z hS;cases z with
  |inl s=>exact hS.elim
  |inr y=>
   obtain⟨js,q1,q2⟩:=h8 y;refine⟨.inl y,js,hS.1.symm,?_,q1,q2⟩;have:=hS.2;show exE y=_;rw[this];by_cases hj:j=id
   ·rw[if_pos hj];have hb:Nat.beq j id=true:=by rw[hj];exact Nat.beq_refl id
    rw[hb];rfl
   ·rw[if_neg hj];cases hb:Nat.beq j id with
    |true=>exact absurd (Nat.eq_of_beq_eq_true hb) hj
    |false=>rfl
end
section
variable {P:Program}{ρ σ τ:Type}
def rF:Ob->Option Nat
 | .mi _ _ _ c=>c
 |_=>none
def nxC (step:τ->σ->ρ⊕σ)(l:List τ)(d:τ)(D:List Nat->Option Nat->σ->St)(n0:Nat)(left:List Nat)(s:σ)(st:St):Option Nat->Prop
 |some j=>j∈left/\n8 (fun _ s'=>D (left.erase j) (some j) s') n0 0 st (step (l.getD j d) s)
 |none=>False
def exC (step:τ->σ->ρ⊕σ)(l:List τ)(d:τ)(exE:ρ->Ex)(outE:ρ->St)(n0:Nat)(left:List Nat)(s:σ)(e:Ex)(st:St):Option Nat->Prop
 |some j=>j∈left/\jM exE outE n0 e st (step (l.getD j d) s)
 |none=>False
def cM (step:τ->σ->ρ⊕σ)(l:List τ)(d:τ)(exE:ρ->Ex)(outE:ρ->St)(outN:σ->St)(D:List Nat->Option Nat->σ->St)(n0 id it:Nat)(left:List Nat)(s:σ):Ex->St->Prop
 | .normal,st=>nxC step l d D n0 left s st (rF (ag st.h it))
 | .exit j,st=>bif Nat.beq j id then(left=[]->fN (outN s) n0 st)/\(left≠[]->exC step l d exE outE n0 left s .normal st (rF (ag st.h it)))else exC step l d exE outE n0 left s (.exit j) st (rF (ag st.h it))
 | .ret,st=>exC step l d exE outE n0 left s .ret st (rF (ag st.h it))
 | .pan x,st=>exC step l d exE outE n0 left s (.pan x) st (rF (ag st.h it))
variable {step:τ->σ->ρ⊕σ}{l:List τ}{d:τ}{n0 id it j:Nat}{exE:ρ->Ex}{outE:ρ->St}{outN:σ->St}{D:List Nat->Option Nat->σ->St}{left:List Nat}{s s':σ}{st:St}{x:Value}{e:Ex}{y:ρ}{t:List (Nat×SV)}{h:List Ob}
@[go_sem] theorem TN {m:Option Nat}{n:Nat}{left:List Nat}{c:Option Nat}:rF (.mi m n left c)=c:=(rfl)
@[go_sem] theorem RR:nxC step l d D n0 left s st (some j)=(j∈left/\n8 (fun _ s'=>D (left.erase j) (some j) s') n0 0 st (step (l.getD j d) s)):=(rfl)
@[go_sem] theorem RS:exC step l d exE outE n0 left s e st (some j)=(j∈left/\jM exE outE n0 e st (step (l.getD j d) s)):=(rfl)
@[go_sem] theorem P7:cM step l d exE outE outN D n0 id it left s .normal ⟨t,h⟩=nxC step l d D n0 left s ⟨t,h⟩ (rF (ag h it)):=(rfl)
@[go_sem] theorem TO:cM step l d exE outE outN D n0 id it left s (.exit j) ⟨t,h⟩=bif Nat.beq j id then(left=[]->fN (outN s) n0 ⟨t,h⟩)/\(left≠[]->exC step l d exE outE n0 left s .normal ⟨t,h⟩ (rF (ag h it)))else exC step l d exE outE n0 left s (.exit j) ⟨t,h⟩ (rF (ag h it)):=(rfl)
@[go_sem] theorem UD:cM step l d exE outE outN D n0 id it left s .ret ⟨t,h⟩=exC step l d exE outE n0 left s .ret ⟨t,h⟩ (rF (ag h it)):=(rfl)
@[go_sem] theorem UE:cM step l d exE outE outN D n0 id it left s (.pan x) ⟨t,h⟩=exC step l d exE outE n0 left s (.pan x) ⟨t,h⟩ (rF (ag h it)):=(rfl)
@[congr] theorem RU {st st':St}{e e':Ex}(h:st=st')(he:e=e'):cM step l d exE outE outN D n0 id it left s e st=cM step l d exE outE outN D n0 id it left s e' st':=by rw[h,he]
attribute [go_sem] GA
@[go_sem] theorem RV {t:List (Nat×SV)}{h:List Ob}{d:Nat}{s:SV}:St.put ⟨t,h⟩ (some d) s=⟨(d,s)::t,h⟩:=(rfl)
@[go_sem] theorem RW {t:List (Nat×SV)}{h:List Ob}{s:SV}:St.put ⟨t,h⟩ none s=⟨t,h⟩:=(rfl)
theorem wK (l:List τ)(d:τ):(List.range l.length).map (fun j=>l.getD j d)=l:=by
 apply List.ext_getElem
 ·simp
 ·intro i h1 h2;simp only[List.length_map,List.length_range]at h1;simp[List.getD_eq_getElem?_getD,List.getElem?_eq_getElem h1]
end
inductive NLoc where
 |slot (i:Nat) (o:Ob)
 |cell (i j:Nat) (o:Ob)
def HP (j n:Nat):Ob->Ob
 | .cells l=>.cells (l.set j (.os n))
 |o=>o
def KE (j:Nat):Ob->Prop
 | .cells l=>nth l j=some (.v (.slice none 0 0))
 |_=>False
def wL:Ob->Prop
 | .row _ l=>l=[]
 | .grid _ l=>l=[]
 |_=>False
def FA:SV->Ob->Prop
 | .v (.slice none 0 0),_=>True
 | .e0,.row _ _=>True
 |_,_=>False
def mkN:List NLoc->St->St
 | [],st=>st
 | .slot i o::r,⟨t,h⟩ =>mkN r ⟨(i,.os h.length)::t,h++[o]⟩
 | .cell i j o::r,⟨t,h⟩ =>mkN r ⟨t,bp h i (HP j h.length (ag h i))++[o]⟩
def okN:List NLoc->St->Prop
 | [],_=>True
 | .slot i o::r,⟨t,h⟩ =>FA (lk i t) o/\wL o/\okN r ⟨(i,.os h.length)::t,h++[o]⟩
 | .cell i j o::r,⟨t,h⟩ =>KE j (ag h i)/\wL o/\okN r ⟨t,bp h i (HP j h.length (ag h i))++[o]⟩
section
variable {i j m n:Nat}{o:Ob}{r:List NLoc}{t t2:List (Nat×SV)}{h h2:List Ob}{l:List SV}{ns:List NLoc}{js:List Nat}{st:St}
@[go_sem] theorem TP:mkN [] st=st:=(rfl)
@[go_sem] theorem RX:mkN (.slot i o::r) ⟨t,h⟩=mkN r ⟨(i,.os h.length)::t,h++[o]⟩:=(rfl)
@[go_sem] theorem RY:mkN (.cell i j o::r) ⟨t,h⟩=mkN r ⟨t,bp h i (HP j h.length (ag h i))++[o]⟩:=(rfl)
@[go_sem] theorem TQ:okN [] st=True:=(rfl)
@[go_sem] theorem RZ:okN (.slot i o::r) ⟨t,h⟩=(FA (lk i t) o/\wL o/\okN r ⟨(i,.os h.length)::t,h++[o]⟩):=(rfl)
@[go_sem] theorem R3:okN (.cell i j o::r) ⟨t,h⟩=(KE j (ag h i)/\wL o/\okN r ⟨t,bp h i (HP j h.length (ag h i))++[o]⟩):=(rfl)
@[go_sem] theorem R4:FA (.v (.slice none 0 0)) o=True:=by cases o <;>rfl
@[go_sem] theorem TR {k:Tag}{m:List k.T}:FA .e0 (.row k m)=True:=(rfl)
@[go_sem] theorem NH:HP j n (.cells l)=.cells (l.set j (.os n)):=(rfl)
@[go_sem] theorem NI:KE j (.cells l)=(nth l j=some (.v (.slice none 0 0))):=(rfl)
theorem Em (h:wL o):(∃ k,o=.row k [])\/∃ k,o=.grid k []:=by
 cases o <;>simp only[wL]at h
 ·subst h;exact .inl ⟨_,rfl⟩
 ·subst h;exact .inr ⟨_,rfl⟩
theorem HQ {s:SV}{o:Ob}(h:FA s o):s=.v (.slice none 0 0)\/(s=.e0/\∃ k l,o=.row k l):=by
 unfold FA at h;split at h
 ·exact .inl rfl
 ·exact .inr ⟨rfl,_,_,rfl⟩
 ·exact h.elim
theorem rG:∀ (ns:List NLoc) (st0 st:St),NilS st0 st->okN ns st->NilS st0 (mkN ns st)
 | [],_,_,hn,_=>hn
 | .slot i o::r,st0,⟨t,h⟩,hn,hk=>by
  rcases HQ hk.1 with e| ⟨e,k,l,ho⟩
  ·exact rG r st0 _ (.slot o hn e (Em hk.2.1)) hk.2.2
  ·have h2:=hk.2.1;have h3:=hk.2.2;rw[ho]at h2 h3;simp only[wL]at h2;subst h2;subst ho;exact rG r st0 _ (.slotE k hn e) h3
 | .cell i j o::r,st0,⟨t,h⟩,hn,hk=>by
  refine rG r st0 _ ?_ hk.2.2;have h1:=hk.1;cases ho:ag h i with
  |cells l=>
   rw[ho]at h1;simp only[KE,dM]at h1;exact .cell o hn ho h1 (Em hk.2.1)
  |_=>rw[ho]at h1;exact h1.elim
def oM (m:Nat)(ns:List NLoc)(js:List Nat)(st d:St):Prop:=st.h.length=m/\okN ns st/\m<=d.h.length/\Sub js m (mkN ns st) d
@[go_sem] theorem P8:oM m ns js ⟨t,h⟩ ⟨t2,h2⟩=(h.length=m/\okN ns ⟨t,h⟩/\m<=h2.length/\Sub js m (mkN ns ⟨t,h⟩) ⟨t2,h2⟩):=(rfl)
end
theorem ah {P:Program}{ro:Option Nat}{N:Nat}(c:Code):ak P ro N L0 c:=by
 induction c with
 |seq a b ha hb=>exact⟨ha,hb⟩
 |cond _ a b ha hb=>exact⟨ha,hb⟩
 |block id c hc=>
  cases c with
  |loop c=>exact fun _ _ _ _ _ h=>by cases h
  |rangeFunc f ps a b=>exact fun _ _ _ _ _ h=>by cases h
  |_=>exact hc
 |_=>trivial
section
variable {ρ σ τ:Type}
def pT:Nat->σ->Prop:=fun _ _=>True
@[go_sem] theorem UF {step:Nat->σ->ρ⊕σ}{n i:Nat}{s:σ}:okI step pT n i s=True:=eq_true (iu _ _ _ fun _ _ _ _=>trivial)
def LCR (m:Nat)(ns:List NLoc)(js:List Nat)(D:Nat->σ->St)(step:Nat->σ->ρ⊕σ)(p:Nat->σ->Prop)(n:Nat)(s0:σ)(B:Prop)(exE:ρ->Ex)(outE:ρ->St)(st:St):LCon:=
 LC (oM m ns js st (D 0 s0)/\B/\okI step p n 0 s0) (aj step n 0 s0) exE outE (D n)
def LCV (m:Nat)(ns:List NLoc)(js:List Nat)(D:Nat->σ->St)(step:Nat->σ->ρ⊕σ)(p:Nat->σ->Prop)(n:Nat)(s0:σ)(exE:ρ->Ex)(outE:ρ->St)(st:St):LCon:=
 LC (oM m ns js st (D 0 s0)/\okI step p n 0 s0/\∀ s,aj step n 0 s0≠ .inr s) (aj step n 0 s0) exE outE (D n)
variable {m:Nat}{ns:List NLoc}{js:List Nat}{step:Nat->σ->ρ⊕σ}{p:Nat->σ->Prop}{n:Nat}{s0:σ}{B:Prop}{exE:ρ->Ex}{outE:ρ->St}{outN:σ->St}{st:St}{Q:Ex->St->Prop}
@[go_sem] theorem P9 {D:Nat->σ->St}:mK Q (some (LCR m ns js D step p n s0 B exE outE st))=((oM m ns js st (D 0 s0)/\B/\okI step p n 0 s0)/\(∀ x,aj step n 0 s0=.inl x->Q (exE x) (outE x))/\∀ s,aj step n 0 s0=.inr s->Q .normal (D n s)):=Bp
@[go_sem] theorem P_ {D:Nat->σ->St}:mK Q (some (LCV m ns js D step p n s0 exE outE st))=((oM m ns js st (D 0 s0)/\okI step p n 0 s0/\∀ s,aj step n 0 s0≠ .inr s)/\∀ x,aj step n 0 s0=.inl x->Q (exE x) (outE x)):=by
 refine Bp.trans ?_;apply propext;constructor
 ·rintro⟨h1,h2,_⟩;exact⟨h1,h2⟩
 ·rintro⟨h1,h2⟩;exact⟨h1,h2,fun s hs=>absurd hs (h1.2.2 s)⟩
def cR (step:Nat->σ->ρ⊕σ)(exE:ρ->Ex)(outE:ρ->St)(D:Nat->σ->St)(m id k:Nat)(s:σ):Ex->St->Prop
 | .normal,st=>n8 D m k st (step k s)
 | .exit j,st=>jM exE outE m (bif Nat.beq j id then .normal else .exit j) st (step k s)
 | .ret,st=>jM exE outE m .ret st (step k s)
 | .pan x,st=>jM exE outE m (.pan x) st (step k s)
def cZ (d:St)(m id:Nat):Ex->St->Prop
 | .exit j,st=>bif Nat.beq j id then fN d m st else False
 |_,_=>False
variable {D:Nat->σ->St}{id k j:Nat}{s:σ}{x:Value}{d:St}{e e':Ex}
@[go_sem] theorem Qa:cR step exE outE D m id k s .normal st=n8 D m k st (step k s):=(rfl)
@[go_sem] theorem TS:cR step exE outE D m id k s (.exit j) st=jM exE outE m (bif Nat.beq j id then .normal else .exit j) st (step k s):=(rfl)
@[go_sem] theorem UG:cR step exE outE D m id k s .ret st=jM exE outE m .ret st (step k s):=(rfl)
@[go_sem] theorem UH:cR step exE outE D m id k s (.pan x) st=jM exE outE m (.pan x) st (step k s):=(rfl)
@[go_sem] theorem TT:cZ d m id (.exit j) st=bif Nat.beq j id then fN d m st else False:=(rfl)
@[congr] theorem R5 {st':St}(h:st=st')(he:e=e'):cR step exE outE D m id k s e st=cR step exE outE D m id k s e' st':=by rw[h,he]
@[congr] theorem R6 {st':St}(h:st=st')(he:e=e'):cZ d m id e st=cZ d m id e' st':=by rw[h,he]
@[congr] theorem LY {r r':ρ⊕σ}(h:r=r')(he:e=e'):jM exE outE m e st r=jM exE outE m e' st r':=by rw[h,he]
end
section
variable {P:Program}{ρ σ τ:Type}{ts:Tis}{G:Cons}{ro:Option Nat}{N:Nat}{id:Nat}{c:Code}{C:St->Option LCon}{m:Nat}{ns:List NLoc}{js:List Nat}{step:Nat->σ->ρ⊕σ}{p:Nat->σ->Prop}{n:Nat}{s0:σ}{exE:ρ->Ex}{outE:ρ->St}{D:Nat->σ->St}
theorem HR {n0:Nat}(hn0:n0=m){s:σ}{k:Nat}(hlt:k<n){I:Nat×σ->Prop}{μ:Nat×σ->Nat}{outN:σ->St}{pre:Prop}{run:ρ⊕σ}
  (hI:∀ s',step k s=.inr s'->I (k+1,s')/\μ (k+1,s') <μ (k,s)) (hx:∀ x,step k s=.inl x->run=.inl x):
  ∀ e st',cR step exE outE D m id k s e st'->oG (fun x:Nat×σ=>D x.1 x.2) I μ n0 (k,s) id (fun e st'=>∃ r js,(LC pre run exE outE outN).post r/\(LC pre run exE outE outN).ex r=e/\n0<=((LC pre run exE outE outN).out r).h.length/\Sub js n0 st' ((LC pre run exE outE outN).out r)) e st':=by
 subst hn0;have hfin:∀ e st',jM exE outE n0 e st' (step k s)->∃ r js,(LC pre run exE outE outN).post r/\(LC pre run exE outE outN).ex r=e/\n0<=((LC pre run exE outE outN).out r).h.length/\Sub js n0 st' ((LC pre run exE outE outN).out r):=by
  intro e st' q;cases hs:step k s with
  |inr s'=>rw[hs]at q;exact q.elim
  |inl x=>
   rw[hs]at q;obtain⟨q2,js,q3,q4⟩:=q;exact⟨.inl x,js,(hx x hs).symm,q2,q3,q4⟩
 intro e st' hq;cases e with
 |normal=>
  change n8 D n0 k st' (step k s)at hq;cases hs:step k s with
  |inl x=>rw[hs]at hq;exact hq.elim
  |inr s'=>
   rw[hs]at hq;obtain⟨js,q3,q4⟩:=hq;obtain⟨i1,i2⟩:=hI s' hs;exact⟨(k+1,s'),js,i1,i2,q3,q4⟩
 |exit j=>
  change jM exE outE n0 (bif Nat.beq j id then .normal else .exit j) st' (step k s)at hq;show bif Nat.beq j id then _ else _;cases hb:Nat.beq j id with
  |true=>rw[hb]at hq;exact hfin _ _ hq
  |false=>rw[hb]at hq;exact hfin _ _ hq
 |ret=>exact hfin _ _ hq
 |pan x=>exact hfin _ _ hq
theorem tM {B:Prop}(hm:P.follows .mixedOrders=true)(hts:ts.ok P)(hG:ConsOk P G)(hc:cj N c=true)(hC:∀ st,C st=some (LCR m ns js D step p n s0 B exE outE st))
  (h:B->∀ k s,k<n->p k s->∃ L Q,ak P ro N L c/\(∀ e st',Q e st'->cR step exE outE D m id k s e st')/\exec ts G L c (D k s) Q)
  (h2:B->∀ s,∃ Q,(∀ e st',Q e st'->cZ (D n s) m id e st')/\exec ts G L0 c (D n s) Q):iG P ro N id (.loop c) C:=by
 refine sr hm hts hG hc fun st lc hC' hp=>?_;rw[hC st]at hC';cases hC';obtain⟨⟨hlen,hok,hle,hsub⟩,hB,h1⟩:=hp;refine⟨Nat×σ,fun x=>D x.1 x.2,fun x=>x.1<=n/\okI step p (n - x.1) x.1 x.2/\aj step (n - x.1) x.1 x.2=aj step n 0 s0,fun x=>n - x.1,(0,s0),mkN ns st,js,⟨Nat.zero_le _,by simpa using h1,by simp⟩,rG ns st st (.refl _) hok,by rw[hlen];exact hle,by rw[hlen];exact hsub,?_⟩;rintro⟨k,s⟩ ⟨hk,hJ,hrun⟩;simp only at hk hJ hrun;rcases Nat.lt_or_ge k n with hlt|hge
 ·rw[show n - k=(n - k - 1)+1 by omega]at hrun hJ;obtain⟨L,Q,hl,hQ,hex⟩:=h hB k s hlt hJ.1;have hI:∀ s',step k s=.inr s'->okI step p (n - (k+1)) (k+1) s'/\aj step (n - (k+1)) (k+1) s'=aj step n 0 s0:=fun s' hs=>by
   have:=hJ.2 s' hs;rw[show n - k - 1=n - (k+1) by omega]at this hrun;simp only[aj,hs]at hrun;exact⟨this,hrun⟩
  have hx:∀ x,step k s=.inl x->aj step n 0 s0=.inl x:=fun x hs=>by
   simp only[aj,hs]at hrun;exact hrun.symm
  exact⟨L,Q,hl,fun e st' q=>HR hlen hlt (fun s' hs=>⟨⟨hlt,hI s' hs⟩,by simp only;omega⟩) hx e st' (hQ e st' q),hex⟩
 ·have hkn:k=n:=by omega
  subst hkn;obtain⟨Q,hQ,hex⟩:=h2 hB s;refine⟨L0,Q,ah c,fun e st' q=>?_,hex⟩;have hq:=hQ e st' q;simp only[Nat.sub_self,aj]at hrun;cases e with
  |exit j=>
   change bif Nat.beq j id then fN (D k s) m st' else False at hq;show bif Nat.beq j id then _ else _;cases hb:Nat.beq j id with
   |true=>
    rw[hb]at hq;obtain⟨js,q3,q4⟩:=hq;exact⟨.inr s,js,hrun,rfl,by rw[hlen];exact q3,by rw[hlen];exact q4⟩
   |false=>rw[hb]at hq;exact hq.elim
  |_=>exact hq.elim
theorem d9 {B:Prop}(hm:P.follows .mixedOrders=true)(hts:ts.ok P)(hG:ConsOk P G)(hc:cj N c=true)(hC:∀ st,C st=some (LCR m ns js D step p n s0 B exE outE st))(M:Int)(hn:n=M.toNat)(hB:B->M<9223372036854775808)
  (h:B->∀ k s,k<n->p k s->i64.wrap ((k:Int)+1)=((k+1:Nat):Int)->decide ((k:Int) <M)=true->∃ L,ak P ro N L c/\exec ts G L c (D k s) (cR step exE outE D m id k s))
  (h2:B->∀ s,decide ((n:Int) <M)=false->exec ts G L0 c (D n s) (cZ (D n s) m id)):iG P ro N id (.loop c) C:=by
 refine tM hm hts hG hc hC (fun b k s hlt hp=>?_) fun b s=>⟨_,fun _ _ q=>q,h2 b s ?_⟩
 ·obtain⟨L,h1,h3⟩:=h b k s hlt hp (Ht (hn▸hlt) (hB b)) (decide_eq_true (by omega));exact⟨L,_,h1,fun _ _ q=>q,h3⟩
 ·rw[decide_eq_false_iff_not];omega
theorem dE (E:Prop)(hm:P.follows .mixedOrders=true)(hts:ts.ok P)(hG:ConsOk P G)(hc:cj N c=true)(hC:∀ st,C st=some (LCR m ns js D step p n s0 True exE outE st))(M:Int)(hn:n=M.toNat)(hE:E->M<9223372036854775808)
  (h:E->∀ k s,k<n->p k s->i64.wrap ((k:Int)+1)=((k+1:Nat):Int)->decide ((k:Int) <M)=true->∃ L,ak P ro N L c/\exec ts G L c (D k s) (cR step exE outE D m id k s))
  (h2:E->∀ s,decide ((n:Int) <M)=false->exec ts G L0 c (D n s) (cZ (D n s) m id)) (h3:¬E->∀ k s,exec ts G L0 c (D k s) fun _ _=>False):iG P ro N id (.loop c) C:=by
 by_cases hb:E
 ·refine tM hm hts hG hc hC (fun b k s hlt hp=>?_) fun b s=>⟨_,fun _ _ q=>q,h2 hb s ?_⟩
  ·obtain⟨L,h1,h4⟩:=h hb k s hlt hp (Ht (hn▸hlt) (hE hb)) (decide_eq_true (by omega));exact⟨L,_,h1,fun _ _ q=>q,h4⟩
  ·rw[decide_eq_false_iff_not];omega
 ·exact tM hm hts hG hc hC (fun _ k s _ _=>⟨L0,_,ah c,fun _ _ q=>q.elim,h3 hb k s⟩) fun _ s=>⟨_,fun _ _ q=>q.elim,h3 hb n s⟩
theorem ez (hm:P.follows .mixedOrders=true)(hts:ts.ok P)(hG:ConsOk P G)(hc:cj N c=true)(hC:∀ st,C st=some (LCV m ns js D step p n s0 exE outE st))
  (h:∀ k s,p k s->∃ L,ak P ro N L c/\exec ts G L c (D k s) (cR step exE outE D m id k s)):iG P ro N id (.loop c) C:=by
 refine sr hm hts hG hc fun st lc hC' hp=>?_;rw[hC st]at hC';cases hC';obtain⟨⟨hlen,hok,hle,hsub⟩,h1,hno⟩:=hp;refine⟨Nat×σ,fun x=>D x.1 x.2,fun x=>x.1<=n/\okI step p (n - x.1) x.1 x.2/\aj step (n - x.1) x.1 x.2=aj step n 0 s0,fun x=>n - x.1,(0,s0),mkN ns st,js,⟨Nat.zero_le _,by simpa using h1,by simp⟩,rG ns st st (.refl _) hok,by rw[hlen];exact hle,by rw[hlen];exact hsub,?_⟩;rintro⟨k,s⟩ ⟨hk,hJ,hrun⟩;simp only at hk hJ hrun;have hlt:k<n:=by
  rcases Nat.lt_or_ge k n with h|h
  ·exact h
  ·have hkn:k=n:=by omega
   subst hkn;simp only[Nat.sub_self,aj]at hrun;exact absurd hrun.symm (hno s)
 rw[show n - k=(n - k - 1)+1 by omega]at hrun hJ;obtain⟨L,hl,hex⟩:=h k s hJ.1;have hI:∀ s',step k s=.inr s'->okI step p (n - (k+1)) (k+1) s'/\aj step (n - (k+1)) (k+1) s'=aj step n 0 s0:=fun s' hs=>by
  have:=hJ.2 s' hs;rw[show n - k - 1=n - (k+1) by omega]at this hrun;simp only[aj,hs]at hrun;exact⟨this,hrun⟩
 have hx:∀ x,step k s=.inl x->aj step n 0 s0=.inl x:=fun x hs=>by
  simp only[aj,hs]at hrun;exact hrun.symm
 exact⟨L,_,hl,fun e st' q=>HR hlen hlt (fun s' hs=>⟨⟨hlt,hI s' hs⟩,by simp only;omega⟩) hx e st' q,hex⟩
theorem gX {α:Type}{l:List α}(h:l.length<=bb):(l.length:Int) <9223372036854775808:=by unfold bb at h;omega
end
section
universe u
variable {α:Type u}{G:List SV->α->Prop}{r:List SV}
theorem cq {k:Int->List SV->Option α}(h:∀ n l c,k n l=some c->G (.v (.int .i64 n)::l) c):∀ l c,pI k l=some c->G l c:=fun l c hc=>by
 obtain⟨n,r,rfl,h1⟩:=No hc;exact h n r c h1
theorem tN {k:Bool->List SV->Option α}(h:∀ n l c,k n l=some c->G (.v (.bool n)::l) c):∀ l c,pB k l=some c->G l c:=fun l c hc=>by
 obtain⟨n,r,rfl,h1⟩:=Np hc;exact h n r c h1
theorem dN {t:Tag}{k:List t.T->List SV->Option α}(h:∀ n l c,k n l=some c->G (.rs t n::l) c):∀ l c,pR t k l=some c->G l c:=fun l c hc=>by
 obtain⟨n,r,rfl,h1⟩:=Nq hc;exact h n r c h1
theorem aS {t:Tag}{k:t.T->List SV->Option α}(h:∀ n l c,k n l=some c->G (.agg (cellsOf t n)::l) c):∀ l c,pD t k l=some c->G l c:=fun l c hc=>by
 obtain⟨n,r,rfl,h1⟩:=Ns hc;exact h n r c h1
theorem zZ {t:Tag}{k:t.T->List SV->Option α}(h:∀ n l c,k n l=some c->G (.ep (cellsOf t n) 0::l) c):∀ l c,pX t k l=some c->G l c:=fun l c hc=>by
 obtain⟨n,r,rfl,h1⟩:=Nr hc;exact h n r c h1
theorem NJ {t t2:Tag}{k:List (t.T×t2.T)->List SV->Option α}(h:∀ n l c,k n l=some c->G (.rm t t2 n::l) c):∀ l c,pM t t2 k l=some c->G l c:=fun l c hc=>by
 obtain⟨n,r,rfl,h1⟩:=Hn hc;exact h n r c h1
theorem aD {c0:α}(h:G [] c0):∀ l c,pE c0 l=some c->G l c:=fun l c hc=>by
 obtain⟨rfl,rfl⟩:=C7 hc;exact h
end
section
universe u
variable {α:Type u}{G:List SV->α->Prop}
def apO:Option (List SV->Option α)->List SV->Option α
 |some q,r=>q r
 |none,_=>none
@[go_sem] theorem R7 {q:List SV->Option α}{r:List SV}:apO (some q) r=q r:=(rfl)
@[go_sem] theorem R8 {r:List SV}:apO (α:=α) none r=none:=(rfl)
def pFn (f:Nat)(k:List SV->Option (List SV->Option α)):List SV->Option α
 | .fn g [] caps::r=>bif Nat.beq g f then apO (k caps) r else none
 |_=>none
def pXF (f:Nat)(k:List SV->Option (List SV->Option α)):List SV->Option α
 | .ep [.fn g [] caps] 0::r=>bif Nat.beq g f then apO (k caps) r else none
 |_=>none
@[go_sem] theorem UJ {f g:Nat}{k:List SV->Option (List SV->Option α)}{caps r:List SV}:pFn f k (.fn g [] caps::r)=bif Nat.beq g f then apO (k caps) r else none:=(rfl)
@[go_sem] theorem UK {f g:Nat}{k:List SV->Option (List SV->Option α)}{caps r:List SV}:pXF f k (.ep [.fn g [] caps] 0::r)=bif Nat.beq g f then apO (k caps) r else none:=(rfl)
theorem KF {o:Option (List SV->Option α)}{r:List SV}{c:α}(h:apO o r=some c):∃ q,o=some q/\q r=some c:=by
 cases o with
 |none=>cases h
 |some q=>exact⟨q,rfl,h⟩
theorem su {f:Nat}{k:List SV->Option (List SV->Option α)}(h:∀ caps q,k caps=some q->∀ l c,q l=some c->G (.fn f [] caps::l) c):∀ l c,pFn f k l=some c->G l c:=fun l c hc=>by
 unfold pFn at hc;split at hc
 ·rename_i g caps r;cases hb:Nat.beq g f with
  |false=>rw[hb]at hc;cases hc
  |true=>
   rw[hb]at hc;obtain⟨q,h1,h2⟩:=KF hc;have:=Nat.eq_of_beq_eq_true hb;subst this;exact h caps q h1 r c h2
 ·cases hc
def pFB (f:Nat)(k:List SV->Option (List SV->Option α)):List SV->Option α
 | .fn g caps []::r=>bif Nat.beq g f then apO (k caps) r else none
 |_=>none
def R9 (f:Nat)(k:List SV->Option (List SV->Option α)):List SV->Option α
 | .ep [.fn g caps []] 0::r=>bif Nat.beq g f then apO (k caps) r else none
 |_=>none
@[go_sem] theorem UL {f g:Nat}{k:List SV->Option (List SV->Option α)}{caps r:List SV}:pFB f k (.fn g caps []::r)=bif Nat.beq g f then apO (k caps) r else none:=(rfl)
@[go_sem] theorem TU {f g:Nat}{k:List SV->Option (List SV->Option α)}{caps r:List SV}:R9 f k (.ep [.fn g caps []] 0::r)=bif Nat.beq g f then apO (k caps) r else none:=(rfl)
@[go_sem] theorem UN {f g:Nat}{k:List SV->Option (List SV->Option α)}{b c r:List SV}{x:SV}:pFB f k (.fn g b (x::c)::r)=none:=(rfl)
@[go_sem] theorem TV {f g:Nat}{k:List SV->Option (List SV->Option α)}{b c r:List SV}{x:SV}:R9 f k (.ep [.fn g b (x::c)] 0::r)=none:=(rfl)
@[go_sem] theorem UO {f g:Nat}{k:List SV->Option (List SV->Option α)}{b c r:List SV}{x:SV}:pFn f k (.fn g (x::b) c::r)=none:=(rfl)
@[go_sem] theorem UP {f g:Nat}{k:List SV->Option (List SV->Option α)}{b c r:List SV}{x:SV}:pXF f k (.ep [.fn g (x::b) c] 0::r)=none:=(rfl)
end
def pXX {α:Type 1}(t:Tag)(k:t.T->List SV->Option α):List SV->Option α
 | .ep [s] 0::r=>pX t k (s::r)
 |_=>none
@[go_sem] theorem R_ {α:Type 1}{t:Tag}{k:t.T->List SV->Option α}{s:SV}{r:List SV}:pXX t k (.ep [s] 0::r)=pX t k (s::r):=(rfl)
theorem KG {α:Type 1}{G:List SV->α->Prop}{t:Tag}{k:List t.T->List SV->Option α}(h:∀ n l c,k n l=some c->G (.ep [.rs t n] 0::l) c):∀ l c,pXR t k l=some c->G l c:=fun l c hc=>by
 obtain⟨n,r,rfl,h1⟩:=KD hc;exact h n r c h1
theorem cl3 {p:Prop}(h:p:=by((repeat' (first|with_reducible refine And.intro ?_ ?_|((with_reducible show _≠_);first|assumption|omega|(simp_all [cO,dK];done) |grind) |with_reducible intro _)) <;>(first|done|assumption|rfl|omega|exact cl|(simp_all only[Hr,Hs,Sum.inr.injEq,Sum.inl.injEq,forall_eq',forall_const,true_imp_iff,cond_true,cond_false,and_self];done)))):p:=h
def KH (k:Tag)(K:List k.T->Option HCon):List Ob->Option HCon
 | [.row k' l] =>if h:k'=k then K (h▸l)else none
 |_=>none
theorem HS {k:Tag}{K:List k.T->Option HCon}{h:List Ob}{c:HCon}(hh:KH k K h=some c):∃ l,h=[.row k l]/\K l=some c:=by
 unfold KH at hh;split at hh
 ·split at hh
  ·rename_i e;subst e;exact⟨_,rfl,hh⟩
  ·cases hh
 ·cases hh
end Go.Sx
end
section
namespace Go.Sx
open Go.Proofs
open IntKind (i64 u64)
theorem czl {p:Prop}(h:p:=by first|(simp only[*,cond_true,cond_false,Bool.not_true,Bool.not_false,go_sem,Nat.reduceBEq,Nat.reduceLeDiff,Nat.reduceLT,decide_true,Nat.reduceAdd,Nat.reduceSub,Nat.reduceMul,Int.reduceLE,Int.reduceLT,Int.reduceToNat,Int.reduceNeg,reduceCtorEq];done) |fail):p:=h
theorem wM {l0:List Nat}(a0:JL l0){p:Prop}(h:JL l0->p:=by intro ja;(first|done|(repeat' (first|with_reducible refine And.intro ?_ ?_|((with_reducible show _≠_);first|assumption|omega|(simp_all [cO,dK];done) |grind) |with_reducible intro _)) <;>(first|done|with_reducible exact Empty.elim ‹Empty› |with_reducible assumption|rfl|omega|assumption|decide|exact fk ja|exact czl|(simp only[*,cond_true,cond_false,Bool.not_true,Bool.not_false,go_sem,Nat.reduceBEq,Nat.reduceLeDiff,Nat.reduceLT,decide_true,Nat.reduceAdd,Nat.reduceSub,Nat.reduceMul,Int.reduceLE,Int.reduceLT,Int.reduceToNat,Int.reduceNeg,reduceCtorEq];(repeat' (first|with_reducible refine And.intro ?_ ?_|((with_reducible show _≠_);first|assumption|omega|(simp_all [cO,dK];done) |grind) |with_reducible intro _)) <;>(first|done|assumption|rfl|omega|decide|exact fk ja|(simp_all [cO,dK];done))) |(simp_all [okI,cO,dK];done) |(simp_all [cO,dK];(first|done|exact fk2 ja)) |exact fk2 ja))):p:=h a0
theorem bY {l0:List Nat}(a0:JL l0){p:Prop}(h:JL l0->p:=by intro ja;simp only[go_sem,Nat.reduceBEq,Nat.reduceLeDiff,Nat.reduceLT,decide_true,Nat.reduceAdd,Nat.reduceSub,Nat.reduceMul,Int.reduceLE,Int.reduceLT,Int.reduceToNat,Int.reduceNeg,reduceCtorEq,hc,hw];all_goals exact wM ja):p:=h a0
theorem bZ {l0:List Nat}(a0:JL l0){p:Prop}(h:JL l0->p:=by intro ja;simp only[go_sem,Nat.reduceBEq,Nat.reduceLeDiff,Nat.reduceLT,decide_true,Nat.reduceAdd,Nat.reduceSub,Nat.reduceMul,Int.reduceLE,Int.reduceLT,Int.reduceToNat,Int.reduceNeg,reduceCtorEq,hc];all_goals exact wM ja):p:=h a0
def gD (x:Int):Bool:=false
@[go_sem] def oX:List SV->Option Con:=(pI fun x=>(pE (.det True (.v (.bool (gD x))))))
theorem zq1 {p:Prop}(h:p:=by simp only[go_sem,Nat.reduceBEq,Nat.reduceLeDiff,Nat.reduceLT,decide_true,Nat.reduceAdd,Nat.reduceSub,Nat.reduceMul,Int.reduceLE,Int.reduceLT,Int.reduceToNat,Int.reduceNeg,reduceCtorEq];all_goals exact cl):p:=h
theorem tO:FnOk Tryz.prog 62 oX:=by
 have hG:ConsOk Tryz.prog (mkG [] []):=av cg0 cg0;refine aR [.o] mixed al hG (fn:=Tryz.f62) (c:=ae Tryz.f62) kr kr kr kr (cq fun x=>(aD (fun hp=>?_)));dsimp only[aC]at hp;refine⟨nbl rfl,L0,ah _,?_⟩
 ·unfold ae Tryz.f62;try unfold gD
  exact zq1
def df (x:Int)(y:Int):Int:=(bif(gD x)then(bif(gD y)then 0 else(-1))else(bif(gD y)then 1 else(bif(decide (x<y))then(-1)else(bif(decide (x > y))then 1 else 0))))
@[go_sem] def fm:List SV->Option Con:=(pI fun x=>(pI fun y=>(pE (.det True (.v (.int .i64 (df x y)))))))
theorem gj:FnOk Tryz.prog 38 fm:=by
 have hG:ConsOk Tryz.prog (mkG [(62,oX)] []):=av (cgc tO cg0) cg0;refine aR [.o] mixed al hG (fn:=Tryz.f38) (c:=ae Tryz.f38) kr kr kr kr (cq fun x=>(cq fun y=>(aD (fun hp=>?_))));dsimp only[aC]at hp;refine⟨nbl rfl,L0,ah _,?_⟩
 ·unfold ae Tryz.f38;try unfold df
  exact zq1
def bW (n:Int):Int:=(bif(decide (n<0))then(u64.wrap (0 - (u64.wrap n)))else(u64.wrap n))
@[go_sem] def jN:List SV->Option Con:=(pI fun n=>(pE (.det True (.v (.int .u64 (bW n))))))
theorem mQ:FnOk Tryz.prog 89 jN:=by
 have hG:ConsOk Tryz.prog (mkG [] []):=av cg0 cg0;refine aR [.o] mixed al hG (fn:=Tryz.f89) (c:=ae Tryz.f89) kr kr kr kr (cq fun n=>(aD (fun hp=>?_)));dsimp only[aC]at hp;refine⟨nbl rfl,L0,ah _,?_⟩
 ·unfold ae Tryz.f89;try unfold bW
  exact zq1
def az (a:Ratio):Int:=(bif(((((decide (a.d<1)) ||(decide (a.d > 1073741824))) ||(decide (a.n< (-1073741824)))) ||(decide (a.n > 1073741824))) ||(((Bx (Int.toNat (bW a.n)) (Int.toNat (u64.wrap a.d)):Nat):Int) !=1))then 120 else 0)
def qK (a:Ratio):Prop:=(((((decide (a.d<1)) ||(decide (a.d > 1073741824))) ||(decide (a.n< (-1073741824)))) ||(decide (a.n > 1073741824)))=false->(0<=(bW a.n)/\0<=(u64.wrap a.d)))
theorem wN (n:Int):0<=u64.wrap n:=by
 simp[IntKind.wrap,IntKind.bits,IntKind.signed];omega
theorem tP (n:Int):0<=bW n:=by
 unfold bW;cases decide (n<0) <;>exact wN _
theorem wO (a:Ratio):qK a:=fun _=>⟨tP _,wN _⟩
@[go_sem] def kS:List SV->Option Con:=(pD .ratio fun a=>(pE (.det True (.v (.int .i64 (az a))))))
theorem zq4 {p:Prop}(h:p:=by simp only[go_sem,Nat.reduceBEq,Nat.reduceLeDiff,Nat.reduceLT,decide_true,Nat.reduceAdd,Nat.reduceSub,Nat.reduceMul,Int.reduceLE,Int.reduceLT,Int.reduceToNat,Int.reduceNeg,reduceCtorEq,C83];all_goals exact cl):p:=h
theorem mR:FnOk Tryz.prog 60 kS:=by
 have hG:ConsOk Tryz.prog (mkG [(88,C83),(89,jN)] []):=av (cgc HM (cgc mQ cg0)) cg0;refine aR [.o] mixed al hG (fn:=Tryz.f60) (c:=ae Tryz.f60) kr kr kr kr (aS fun a=>(aD (fun hp=>?_)));dsimp only[aC]at hp;have hp:=wO a;unfold qK at hp;refine⟨nbl rfl,L0,ah _,?_⟩
 ·unfold ae Tryz.f60;try unfold az
  exact zq4
def kx (a:Ratio)(b:Ratio):Int×Int:=(bif(((az a) !=0) ||((az b) !=0))then(0,120)else((df (i64.wrap (a.n*b.d)) (i64.wrap (b.n*a.d))),0))
@[go_sem] def un:List SV->Option Con:=(pD .ratio fun a=>(pD .ratio fun b=>(pE (.det True (.tup [.v (.int .i64 ((kx a b).1)),.v (.int .i64 ((kx a b).2))])))))
theorem z6:FnOk Tryz.prog 141 un:=by
 have hG:ConsOk Tryz.prog (mkG [(38,fm),(60,kS)] []):=av (cgc gj (cgc mR cg0)) cg0;refine aR [.o,.o] mixed al hG (fn:=Tryz.f141) (c:=ae Tryz.f141) kr kr kr kr (aS fun a=>(aS fun b=>(aD (fun hp=>?_))));dsimp only[aC]at hp;refine⟨nbl rfl,L0,ah _,?_⟩
 ·unfold ae Tryz.f141;try unfold kx
  exact zq1
def xP (ok:Bool)(e:Int):Unit:=(bif(!ok)then default else())
def cm (ok:Bool)(e:Int):Bool:=(bif(!ok)then false else true)
@[go_sem] def lX:List SV->Option Con:=(pB fun ok=>(pI fun e=>(pE (.may (cm ok e) (.tup []) (.iface 135 (.int .i64 e))))))
theorem n9:FnOk Tryz.prog 58 lX:=by
 have hG:ConsOk Tryz.prog (mkG [] []):=av cg0 cg0;refine aR [] mixed al hG (fn:=Tryz.f58) (c:=ae Tryz.f58) kr kr kr kr (tN fun ok=>(cq fun e=>(aD (fun hp=>?_))));dsimp only[aC]at hp;refine⟨nbl rfl,L0,ah _,?_⟩
 ·unfold ae Tryz.f58;try unfold xP
  try unfold cm
  exact zq1
@[go_sem] def bB (l_:List Int)(k_0:Nat)(s_0:Unit):Unit⊕Unit:=(bif(decide ((l_.getD (Int.toNat ((k_0:Int)+1)) 0) < (l_.getD (Int.toNat (i64.wrap (((k_0:Int)+1) - 1))) 0)))then .inl ()else .inr ())
def gk (l_:List Int)(k_0:Nat)(s_0:Unit):Prop:=(l_.length<=bb->((0<=((k_0:Int)+1)/\((k_0:Int)+1) < (l_.length:Int))/\(0<=(i64.wrap (((k_0:Int)+1) - 1))/\(i64.wrap (((k_0:Int)+1) - 1)) < (l_.length:Int))))
def ax (l_:List Int):Bool:=(match aj (bB l_) (l_.length - 1) 0 ()with| .inl x_0_0=>false| .inr s_0=>true)
def oY (l_:List Int):Prop:=okI (bB l_) (gk l_) (l_.length - 1) 0 ()
theorem tQ (l_:List Int):oY l_:=iu _ _ _ fun j s h1 h2 hm=>by
 unfold bb at hm;rw[a8 (by omega) (by omega)];omega
@[go_sem] def jc:List SV->Option Con:=(pR .int fun l_=>(pE (.det True (.v (.bool (ax l_))))))
theorem zq7 {p:Prop}(h:p:=by simp only[go_sem,Nat.reduceBEq,Nat.reduceLeDiff,Nat.reduceLT,decide_true,Nat.reduceAdd,Nat.reduceSub,Nat.reduceMul,Int.reduceLE,Int.reduceLT,Int.reduceToNat,Int.reduceNeg,reduceCtorEq,hb0]):p:=h
theorem zq8 {p:Prop}(h:p:=by simp only[go_sem,Nat.reduceBEq,Nat.reduceLeDiff,Nat.reduceLT,decide_true,Nat.reduceAdd,Nat.reduceSub,Nat.reduceMul,Int.reduceLE,Int.reduceLT,Int.reduceToNat,Int.reduceNeg,reduceCtorEq,bB,hc0,hw0];all_goals exact cl):p:=h
theorem zq9 {p:Prop}(h:p:=by simp only[go_sem,Nat.reduceBEq,Nat.reduceLeDiff,Nat.reduceLT,decide_true,Nat.reduceAdd,Nat.reduceSub,Nat.reduceMul,Int.reduceLE,Int.reduceLT,Int.reduceToNat,Int.reduceNeg,reduceCtorEq,hc0];all_goals exact cl2):p:=h
theorem ky:FnOk Tryz.prog 84 jc:=by
 have hG:ConsOk Tryz.prog (mkG [] []):=av cg0 cg0;refine aR [.o] mixed al hG (fn:=Tryz.f84) (c:=ae Tryz.f84) kr kr kr kr (dN fun l_=>(aD (fun hp=>?_)));dsimp only[aC]at hp;have hp:=tQ l_;unfold oY at hp;refine⟨nbl rfl,(fun id st=>bif Nat.beq id 0 then some (LC (ρ:=Unit) (σ:=Unit) (lk 0 st.t=.rs .int l_/\lk 3 st.t=.v (.int .i64 1)/\st.h=[]/\okI (bB l_) (gk l_) (l_.length - 1) 0 ()) (aj (bB l_) (l_.length - 1) 0 ()) (fun _=>.ret) (fun x_0_0=>⟨[(2,.v (.bool false))],[]⟩) (fun s_0=>⟨[],[]⟩))else none),?_,?_⟩
 ·unfold ae Tryz.f84;simp only[ak,true_and,and_true]
  ·refine Fv mixed al hG kr fun st lc hC hp=>?_;simp only[go_sem,Nat.reduceBEq,Option.some.injEq]at hC;subst hC;obtain⟨t,h⟩:=st;dsimp only[LC]at hp;obtain⟨e0_0,e0_1,rfl,hok0⟩:=hp;refine⟨_,_,_,(bB l_),(gk l_),(l_.length - 1),(),_,_,_,(fun k_0 s_0=>⟨[(0,.rs .int l_),(3,.v (.int .i64 ((k_0:Int)+1)))],[]⟩),[],rfl,hok0,Nat.le_refl _,?_,fun k_0 s_0 hk0 hp0=>?_⟩
   ·simp only[go_sem,Nat.reduceBEq,Nat.reduceLeDiff,Nat.reduceLT,decide_true,Nat.reduceAdd,Nat.reduceSub,Nat.reduceMul,Int.reduceLE,Int.reduceLT,Int.reduceToNat,Int.reduceNeg,reduceCtorEq,e0_0,e0_1];all_goals (first|done|decide|(repeat' (first|refine And.intro ?_ ?_|rfl|decide)))
   refine⟨L0,?_,?_⟩
   ·simp only[ak,and_self,true_and,and_true]
   ·by_cases hb0:l_.length<=bb
    rotate_left
    ·exact zq7
    ·by_cases hlt0:k_0< (l_.length - 1)
     ·have hw0:i64.wrap (((k_0:Nat):Int)+1+1)=((k_0+1:Nat):Int)+1:=by(have hbb:=hb0;have hll:=hlt0;try unfold bb at hbb);rw[a8 (by omega) (by omega)];omega
      have hq0:=hp0 hlt0;unfold gk at hq0
      replace hq0:=hq0 hb0
      try simp only[hw0,Int.toNat_natCast]at hq0
      have hc0:decide (((k_0:Int)+1) < (l_.length:Int))=true:=by simp only[decide_eq_true_eq];omega
      exact zq8
     ·have hc0:decide (((k_0:Int)+1) < (l_.length:Int))=false:=by simp only[decide_eq_false_iff_not];omega
      exact zq9
 ·unfold ae Tryz.f84;try unfold ax
  exact zq1
def bT (i:Int)(n:Int):Bool:=((decide (i>=0))&&(decide (i<n)))
@[go_sem] def jO:List SV->Option Con:=(pI fun i=>(pI fun n=>(pE (.det True (.v (.bool (bT i n)))))))
theorem lY:FnOk Tryz.prog 86 jO:=by
 have hG:ConsOk Tryz.prog (mkG [] []):=av cg0 cg0;refine aR [.o] mixed al hG (fn:=Tryz.f86) (c:=ae Tryz.f86) kr kr kr kr (cq fun i=>(cq fun n=>(aD (fun hp=>?_))));dsimp only[aC]at hp;refine⟨nbl rfl,L0,ah _,?_⟩
 ·unfold ae Tryz.f86;try unfold bT
  exact zq1
def jP (x:Ratio×Ratio):Bool:=(((((kx x.1 x.2).2==0)&&(decide (x.1.n>=0)))&&(decide ((kx x.1 x.2).1<=0)))&&(decide (x.2.n<=x.2.d)))
@[go_sem] def pz:List SV->Option Con:=(pD .ratio2 fun x=>(pE (.det True (.v (.bool (jP x))))))
theorem uQ:FnOk Tryz.prog 115 pz:=by
 have hG:ConsOk Tryz.prog (mkG [(141,un)] []):=av (cgc z6 cg0) cg0;refine aR [.o] mixed al hG (fn:=Tryz.f115) (c:=ae Tryz.f115) kr kr kr kr (aS fun x=>(aD (fun hp=>?_)));dsimp only[aC]at hp;refine⟨nbl rfl,L0,ah _,?_⟩
 ·unfold ae Tryz.f115;try unfold jP
  exact zq1
def fo (i:Int)(x:Reach):Bool:=letI q0:=ax ([0,x.evap.lo,x.evap.hi,1073741824]);letI q1:=ax ([0,x.siphon,x.bank,1099511627776]);letI q2:=ax ([0,x.siphon,x.cap,1073741824]);letI q3:=ax ([1,x.delay,16]);letI q4:=jP x.seep;(bif(decide (i > 0))then((((((bT x.up i)&&q3)&&q2)&&q1)&&q0)&&q4)else((((((x.up==(-1))&&q3)&&q2)&&q1)&&q0)&&q4))
@[go_sem] def pA:List SV->Option Con:=(pI fun i=>(pD .reach fun x=>(pE (.det True (.v (.bool (fo i x)))))))
theorem uR:FnOk Tryz.prog 85 pA:=by
 have hG:ConsOk Tryz.prog (mkG [(84,fun l=>jc (cX [.sl .int] l)),(86,jO),(115,pz)] []):=av (cgc (ky.norm [.sl .int]) (cgc lY (cgc uQ cg0))) cg0;refine aR [.o] mixed al hG (fn:=Tryz.f85) (c:=ae Tryz.f85) kr kr kr kr (cq fun i=>(aS fun x=>(aD (fun hp=>?_))));dsimp only[aC]at hp;refine⟨nbl rfl,L0,ah _,?_⟩
 ·unfold ae Tryz.f85;try unfold fo
  exact zq1
def fq (a0:District)(a1:Right):Bool:=letI q0:=(a1.every==0)&&(a1.length==0);letI q1:=i64.wrap (a0.hours - 1);letI q2:=a1.reach==a1.reach;letI q3:=a1.name==a1.name;letI q4:=a1.kind==a1.kind;letI q5:=a1.farm==a1.farm;(bif(((!(bT a1.farm (a0.farms.length:Int))) ||(!(bT a1.reach (a0.reaches.length:Int)))) ||(!(ax ([0,a1.since,a1.to,q1]))))then false else(bif(a1.kind==1)then((((a1.reach==0)&&(ax ([0,a1.rank,1048576])))&&(ax ([1,a1.litres,1073741824])))&&(ax ([1,a1.length,a1.every,a0.hours])))else(bif(a1.kind==2)then(q3&&(q4&&(q5&&(q2&&((a1.rank==0)&&((a1.litres==0)&&((a1.since==0)&&((a1.to==q1)&&q0))))))))else(bif(a1.kind==3)then(q3&&(q4&&(q5&&(q2&&((a1.rank==0)&&((a1.litres==0)&&((a1.since==a1.since)&&((a1.to==a1.to)&&q0))))))))else false))))
@[go_sem] def pC:List SV->Option Con:=(pD .district fun a0=>(pD .right fun a1=>(pE (.det True (.v (.bool (fq a0 a1)))))))
theorem uS:FnOk Tryz.prog 87 pC:=by
 have hG:ConsOk Tryz.prog (mkG [(84,fun l=>jc (cX [.sl .int] l)),(86,jO)] []):=av (cgc (ky.norm [.sl .int]) (cgc lY cg0)) cg0;refine aR [.o] mixed al hG (fn:=Tryz.f87) (c:=ae Tryz.f87) kr kr kr kr (aS fun a0=>(aS fun a1=>(aD (fun hp=>?_))));dsimp only[aC]at hp;refine⟨nbl rfl,L0,ah _,?_⟩
 ·unfold ae Tryz.f87;try unfold fq
  exact zq1
@[go_sem] def cA (a0:District)(a1:Int)(k_0:Nat)(s_0:Unit):Unit⊕Unit:=(bif(cm (fo (k_0:Int) (a0.reaches.getD k_0 default)) a1)then .inr ()else .inl ())
@[go_sem] def cT (a0:District)(a1:Int)(k_1:Nat)(s_1:Unit):Unit⊕Unit:=(bif(cm (ax ([0,(a0.crops.getD k_1 default).need,1048576])) a1)then .inr ()else .inl ())
@[go_sem] def cB (a0:District)(a1:Int)(k_2:Nat)(s_2:Unit):Unit⊕Unit:=letI q0:=a0.farms.getD k_2 default;letI q1:=bT (q0.reach) (a0.reaches.length:Int);letI q2:=ax ([0,q0.area,1048576]);(bif(decide (q0.area > 0))then(bif(cm (((bT (q0.crop) (a0.crops.length:Int))&&q1)&&q2) a1)then .inr ()else .inl ())else(bif(cm (((q0.crop==(-1))&&q1)&&q2) a1)then .inr ()else .inl ()))
@[go_sem] def cU (a0:District)(a1:Int)(k_3:Nat)(s_3:Unit):Unit⊕Unit:=(bif(cm (fq a0 (a0.rights.getD k_3 default)) a1)then .inr ()else .inl ())
@[go_sem] def dw (a0:District)(a1:Int)(k_4:Nat)(s_4:Unit):Unit⊕Unit:=letI q0:=a0.duties.getD k_4 default;(bif(cm (((bT (q0.farm) (a0.farms.length:Int))&&(bT (q0.reach) (a0.reaches.length:Int)))&&(ax ([0,q0.due,a0.hours]))) a1)then .inr ()else .inl ())
def wP (a0:District)(a1:Int):Unit:=(bif(cm (((ax ([1,a0.hours,4096]))&&(ax ([0,a0.tank.start,a0.tank.cap,1099511627776])))&&(decide ((a0.reaches.length:Int) > 0))) a1)then(match aj (cA a0 a1) a0.reaches.length 0 ()with| .inl x_0_0=>default| .inr s_0=>(match aj (cT a0 a1) a0.crops.length 0 ()with| .inl x_1_0=>default| .inr s_1=>(match aj (cB a0 a1) a0.farms.length 0 ()with| .inl x_2_0=>default| .inr s_2=>(match aj (cU a0 a1) a0.rights.length 0 ()with| .inl x_3_0=>default| .inr s_3=>(match aj (dw a0 a1) a0.duties.length 0 ()with| .inl x_4_0=>default| .inr s_4=>())))))else default)
def cV (a0:District)(a1:Int):Bool:=(bif(cm (((ax ([1,a0.hours,4096]))&&(ax ([0,a0.tank.start,a0.tank.cap,1099511627776])))&&(decide ((a0.reaches.length:Int) > 0))) a1)then(match aj (cA a0 a1) a0.reaches.length 0 ()with| .inl x_0_0=>false| .inr s_0=>(match aj (cT a0 a1) a0.crops.length 0 ()with| .inl x_1_0=>false| .inr s_1=>(match aj (cB a0 a1) a0.farms.length 0 ()with| .inl x_2_0=>false| .inr s_2=>(match aj (cU a0 a1) a0.rights.length 0 ()with| .inl x_3_0=>false| .inr s_3=>(match aj (dw a0 a1) a0.duties.length 0 ()with| .inl x_4_0=>false| .inr s_4=>true)))))else false)
@[go_sem] def n_:List SV->Option Con:=(pD .district fun a0=>(pI fun a1=>(pE (.may (cV a0 a1) (.tup []) (.iface 135 (.int .i64 a1))))))
theorem sw:FnOk Tryz.prog 59 n_:=by
 have hG:ConsOk Tryz.prog (mkG [(58,lX),(84,fun l=>jc (cX [.sl .int] l)),(85,pA),(86,jO),(87,fun l=>pC (cX [.st .district,.st .right] l))] []):=av (cgc n9 (cgc (ky.norm [.sl .int]) (cgc uR (cgc lY (cgc (uS.norm [.st .district,.st .right]) cg0))))) cg0;refine aR [] mixed al hG (fn:=Tryz.f59) (c:=ae Tryz.f59) kr kr kr kr (aS fun a0=>(cq fun a1=>(aD (fun hp=>?_))));dsimp only[aC]at hp;refine⟨nbl rfl,(fun id st=>bif Nat.beq id 0 then some (LCR (ρ:=Unit) (σ:=Unit) 1 [] [0] (fun k_0 s_0=>⟨[(1,.v (.int .i64 a1)),(2,.ptr 0 0),(38,.rs .reach a0.reaches),(39,.v (.int .i64 (a0.reaches.length:Int))),(40,.v (.int .i64 (k_0:Int)))],[.cells (cellsOf .district a0)]⟩) (cA a0 a1) pT a0.reaches.length () (a0.reaches.length<=bb) (fun _=>.pan (.iface 135 (.int .i64 a1))) (fun x_0_0=>⟨[],[.dead]⟩) st)else bif Nat.beq id 2 then some (LCR (ρ:=Unit) (σ:=Unit) 1 [] [0] (fun k_1 s_1=>⟨[(1,.v (.int .i64 a1)),(2,.ptr 0 0),(52,.rs .crop a0.crops),(53,.v (.int .i64 (a0.crops.length:Int))),(54,.v (.int .i64 (k_1:Int)))],[.cells (cellsOf .district a0)]⟩) (cT a0 a1) pT a0.crops.length () (a0.crops.length<=bb) (fun _=>.pan (.iface 135 (.int .i64 a1))) (fun x_1_0=>⟨[],[.dead]⟩) st)else bif Nat.beq id 4 then some (LCR (ρ:=Unit) (σ:=Unit) 1 [] [0] (fun k_2 s_2=>⟨[(1,.v (.int .i64 a1)),(2,.ptr 0 0),(66,.rs .farm a0.farms),(67,.v (.int .i64 (a0.farms.length:Int))),(68,.v (.int .i64 (k_2:Int)))],[.cells (cellsOf .district a0)]⟩) (cB a0 a1) pT a0.farms.length () (a0.farms.length<=bb) (fun _=>.pan (.iface 135 (.int .i64 a1))) (fun x_2_0=>⟨[],[.dead]⟩) st)else bif Nat.beq id 6 then some (LCR (ρ:=Unit) (σ:=Unit) 1 [] [0] (fun k_3 s_3=>⟨[(1,.v (.int .i64 a1)),(2,.ptr 0 0),(103,.rs .right a0.rights),(104,.v (.int .i64 (a0.rights.length:Int))),(105,.v (.int .i64 (k_3:Int)))],[.cells (cellsOf .district a0)]⟩) (cU a0 a1) pT a0.rights.length () (a0.rights.length<=bb) (fun _=>.pan (.iface 135 (.int .i64 a1))) (fun x_3_0=>⟨[],[.dead]⟩) st)else bif Nat.beq id 8 then some (LCR (ρ:=Unit) (σ:=Unit) 1 [] [0] (fun k_4 s_4=>⟨[(1,.v (.int .i64 a1)),(2,.ptr 0 0),(116,.rs .duty a0.duties),(117,.v (.int .i64 (a0.duties.length:Int))),(118,.v (.int .i64 (k_4:Int)))],[.cells (cellsOf .district a0)]⟩) (dw a0 a1) pT a0.duties.length () (a0.duties.length<=bb) (fun _=>.pan (.iface 135 (.int .i64 a1))) (fun x_4_0=>⟨[],[.dead]⟩) st)else none),?_,?_⟩
 ·unfold ae Tryz.f59;simp only[ak,true_and,and_true];refine⟨?_,?_,?_,?_,?_⟩
  ·refine d9 mixed al hG kr (fun _=>rfl) (a0.reaches.length:Int) rfl gX (fun hb0 k_0 s_0 hlt0 _ hw hc=>⟨L0,ah _,?_⟩) (fun hb0 s_0 hc=>?_)
   ·exact bY (jl [0])
   ·exact bZ (jl [0])
  ·refine d9 mixed al hG kr (fun _=>rfl) (a0.crops.length:Int) rfl gX (fun hb1 k_1 s_1 hlt1 _ hw hc=>⟨L0,ah _,?_⟩) (fun hb1 s_1 hc=>?_)
   ·exact bY (jl [0])
   ·exact bZ (jl [0])
  ·refine d9 mixed al hG kr (fun _=>rfl) (a0.farms.length:Int) rfl gX (fun hb2 k_2 s_2 hlt2 _ hw hc=>⟨L0,ah _,?_⟩) (fun hb2 s_2 hc=>?_)
   ·exact bY (jl [0])
   ·exact bZ (jl [0])
  ·refine d9 mixed al hG kr (fun _=>rfl) (a0.rights.length:Int) rfl gX (fun hb3 k_3 s_3 hlt3 _ hw hc=>⟨L0,ah _,?_⟩) (fun hb3 s_3 hc=>?_)
   ·exact bY (jl [0])
   ·exact bZ (jl [0])
  ·refine d9 mixed al hG kr (fun _=>rfl) (a0.duties.length:Int) rfl gX (fun hb4 k_4 s_4 hlt4 _ hw hc=>⟨L0,ah _,?_⟩) (fun hb4 s_4 hc=>?_)
   ·exact bY (jl [0])
   ·exact bZ (jl [0])
 ·unfold ae Tryz.f59;try unfold wP
  try unfold cV
  exact zq1
def bg (d:District):Int:=(bif(cm (((((decide ((d.reaches.length:Int)<=64))&&(decide ((d.farms.length:Int)<=600)))&&(decide ((d.crops.length:Int)<=32)))&&(decide ((d.rights.length:Int)<=256)))&&(decide ((d.duties.length:Int)<=256))) 2)then(bif(cV d 191)then 0 else 191)else 2)
@[go_sem] def pF:List SV->Option Con:=(pD .district fun d=>(pE (.det True (.v (.int .i64 (bg d))))))
theorem zq16 {p:Prop}(h:p:=by simp only[go_sem,Nat.reduceBEq,Nat.reduceLeDiff,Nat.reduceLT,decide_true,Nat.reduceAdd,Nat.reduceSub,Nat.reduceMul,Int.reduceLE,Int.reduceLT,Int.reduceToNat,Int.reduceNeg,reduceCtorEq,Fy,Db,NB];all_goals exact cl):p:=h
theorem uT:FnOk Tryz.prog 24 pF:=by
 have hG:ConsOk Tryz.prog (mkG [(58,lX),(59,fun l=>n_ (cX [.st .district,.o] l))] []):=av (cgc n9 (cgc (sw.norm [.st .district,.o]) cg0)) cg0;refine Nx HI [.o] mixed al hG (fn:=Tryz.f24) (c0:=Fy (ae Tryz.f24)) (c1:=Db (Db (ae Tryz.f24))) (i1:=regI (Fy (Db (ae Tryz.f24)))) (o1:=RO 0 (Fy (Db (ae Tryz.f24)))) (o2:=RO 1 (Fy (Db (ae Tryz.f24)))) (t3:=3) (q:=2) (tys:= #[]) kr kr kr (by refine⟨?_,?_,?_⟩ <;>kernel_rfl) (by refine⟨?_,?_,?_⟩ <;>kernel_rfl) (nbl rfl) kr kr (aS fun d=>(aD (fun hp=>?_)));dsimp only[aC]at hp;refine⟨nbl rfl,L0,L0,1,?_,?_,?_⟩
 ·unfold ae Tryz.f24;simp only[Fy,ak,and_self,true_and,and_true]
 ·unfold ae Tryz.f24;simp only[Db];simp only[ak,and_self,true_and,and_true]
 ·unfold ae Tryz.f24;try unfold bg
  exact zq16
theorem cH {l0:List Nat}(a0:JL l0){p:Prop}(h:JL l0->p:=by intro ja;simp only[go_sem,Nat.reduceBEq,Nat.reduceLeDiff,Nat.reduceLT,decide_true,Nat.reduceAdd,Nat.reduceSub,Nat.reduceMul,Int.reduceLE,Int.reduceLT,Int.reduceToNat,Int.reduceNeg,reduceCtorEq];all_goals exact wM ja):p:=h a0
def qi (d:District):Bool:=((((((decide ((d.reaches.length:Int)<=100))&&(decide ((d.farms.length:Int)<=700)))&&(decide ((d.crops.length:Int)<=100)))&&(decide ((d.rights.length:Int)<=300)))&&(decide ((d.duties.length:Int)<=300)))&&(decide ((d.wells.length:Int)<=100)))
@[go_sem] def uo:List SV->Option Con:=(pD .district fun d=>(pE (.det True (.v (.bool (qi d))))))
theorem z7:FnOk Tryz.prog 35 uo:=by
 have hG:ConsOk Tryz.prog (mkG [] []):=av cg0 cg0;refine aR [.o] mixed al hG (fn:=Tryz.f35) (c:=ae Tryz.f35) kr kr kr kr (aS fun d=>(aD (fun hp=>?_)));dsimp only[aC]at hp;refine⟨nbl rfl,L0,ah _,?_⟩
 ·unfold ae Tryz.f35;try unfold qi
  exact zq1
def aw (n:Int)(lo:Int)(hi:Int):Bool:=((decide (n>=lo))&&(decide (n<=hi)))
@[go_sem] def fP:List SV->Option Con:=(pI fun n=>(pI fun lo=>(pI fun hi=>(pE (.det True (.v (.bool (aw n lo hi))))))))
theorem gA:FnOk Tryz.prog 92 fP:=by
 have hG:ConsOk Tryz.prog (mkG [] []):=av cg0 cg0;refine aR [.o] mixed al hG (fn:=Tryz.f92) (c:=ae Tryz.f92) kr kr kr kr (cq fun n=>(cq fun lo=>(cq fun hi=>(aD (fun hp=>?_)))));dsimp only[aC]at hp;refine⟨nbl rfl,L0,ah _,?_⟩
 ·unfold ae Tryz.f92;try unfold aw
  exact zq1
@[go_sem] def eI (b:Int)(k_0:Nat)(s_0:Int×Int):Int⊕(Int×Int):=(bif(decide (s_0.2 > 0))then .inr (s_0.2,(Int.tmod s_0.1 s_0.2))else .inl s_0.1)
def jp (b:Int)(k_0:Nat)(s_0:Int×Int):Prop:=((decide (s_0.2 > 0))=true->s_0.2≠0)
def iU (a:Int)(b:Int):Int:=(match aj (eI b) (Int.toNat b+1) 0 (a,b)with| .inl x_0_0=>x_0_0| .inr s_0=>default)
def je (a:Int)(b:Int):Prop:=(okI (eI b) (jp b) (Int.toNat b+1) 0 (a,b)/\(∀ z_,aj (eI b) (Int.toNat b+1) 0 (a,b)≠ .inr z_))
@[go_sem] def oZ:List SV->Option Con:=(pI fun a=>(pI fun b=>(pE (.det (je a b) (.v (.int .i64 (iU a b)))))))
theorem tR:FnOk Tryz.prog 121 oZ:=by
 have hG:ConsOk Tryz.prog (mkG [] []):=av cg0 cg0;refine aR [.o] mixed al hG (fn:=Tryz.f121) (c:=ae Tryz.f121) kr kr kr kr (cq fun a=>(cq fun b=>(aD (fun hp=>?_))));dsimp only[aC]at hp;unfold je at hp;refine⟨nbl rfl,(fun id st=>bif Nat.beq id 0 then some (LCV (ρ:=Int) (σ:=(Int×Int)) 0 [] [] (fun k_0 s_0=>⟨[(0,.v (.int .i64 s_0.1)),(1,.v (.int .i64 s_0.2))],[]⟩) (eI b) (jp b) (Int.toNat b+1) (a,b) (fun _=>.normal) (fun x_0_0=>⟨[(0,.v (.int .i64 x_0_0))],[]⟩) st)else none),?_,?_⟩
 ·unfold ae Tryz.f121;simp only[ak,true_and,and_true]
  ·refine ez mixed al hG kr (fun _=>rfl) fun k_0 s_0 hq0=>⟨L0,ah _,?_⟩
   ·unfold jp at hq0;exact cH (jl [])
 ·unfold ae Tryz.f121;try unfold iU
  exact zq1
def kz (n:Int):Int:=(bif(decide (n<0))then(i64.wrap (0 - n))else n)
@[go_sem] def sA:List SV->Option Con:=(pI fun n=>(pE (.det True (.v (.int .i64 (kz n))))))
theorem xQ:FnOk Tryz.prog 122 sA:=by
 have hG:ConsOk Tryz.prog (mkG [] []):=av cg0 cg0;refine aR [.o] mixed al hG (fn:=Tryz.f122) (c:=ae Tryz.f122) kr kr kr kr (cq fun n=>(aD (fun hp=>?_)));dsimp only[aC]at hp;refine⟨nbl rfl,L0,ah _,?_⟩
 ·unfold ae Tryz.f122;try unfold kz
  exact zq1
def cF (a:Ratio):Bool:=(((((decide (a.d>=1))&&(decide (a.d<=1073741824)))&&(decide (a.n>=(-1073741824))))&&(decide (a.n<=1073741824)))&&((iU (kz a.n) a.d) ==1))
def eE (a:Ratio):Prop:=(((((decide (a.d>=1))&&(decide (a.d<=1073741824)))&&(decide (a.n>=(-1073741824))))&&(decide (a.n<=1073741824)))=true->(je (kz a.n) a.d))
@[go_sem] def iV:List SV->Option Con:=(pD .ratio fun a=>(pE (.det (eE a) (.v (.bool (cF a))))))
theorem jQ:FnOk Tryz.prog 96 iV:=by
 have hG:ConsOk Tryz.prog (mkG [(121,oZ),(122,sA)] []):=av (cgc tR (cgc xQ cg0)) cg0;refine aR [.o] mixed al hG (fn:=Tryz.f96) (c:=ae Tryz.f96) kr kr kr kr (aS fun a=>(aD (fun hp=>?_)));dsimp only[aC]at hp;unfold eE at hp;refine⟨nbl rfl,L0,ah _,?_⟩
 ·unfold ae Tryz.f96;try unfold cF
  exact zq1
def ft (a:Ratio):Int:=(bif(!(cF a))then 120 else 0)
def kT (a:Ratio):Prop:=(eE a)
@[go_sem] def qL:List SV->Option Con:=(pD .ratio fun a=>(pE (.det (kT a) (.v (.int .i64 (ft a))))))
theorem wQ:FnOk Tryz.prog 150 qL:=by
 have hG:ConsOk Tryz.prog (mkG [(96,iV)] []):=av (cgc jQ cg0) cg0;refine aR [.o] mixed al hG (fn:=Tryz.f150) (c:=ae Tryz.f150) kr kr kr kr (aS fun a=>(aD (fun hp=>?_)));dsimp only[aC]at hp;unfold kT at hp;refine⟨nbl rfl,L0,ah _,?_⟩
 ·unfold ae Tryz.f150;try unfold ft
  exact zq1
def mS (a:Ratio)(b:Ratio):Bool:=(decide ((i64.wrap (a.n*b.d)) < (i64.wrap (b.n*a.d))))
@[go_sem] def sB:List SV->Option Con:=(pD .ratio fun a=>(pD .ratio fun b=>(pE (.det True (.v (.bool (mS a b)))))))
theorem xR:FnOk Tryz.prog 154 sB:=by
 have hG:ConsOk Tryz.prog (mkG [] []):=av cg0 cg0;refine aR [.o] mixed al hG (fn:=Tryz.f154) (c:=ae Tryz.f154) kr kr kr kr (aS fun a=>(aS fun b=>(aD (fun hp=>?_))));dsimp only[aC]at hp;refine⟨nbl rfl,L0,ah _,?_⟩
 ·unfold ae Tryz.f154;try unfold mS
  exact zq1
def gl (a:Ratio)(b:Ratio):Bool:=((cF a)&&(cF b))
def jR (a:Ratio)(b:Ratio):Prop:=((eE a)/\((cF a)=true->(eE b)))
@[go_sem] def oN:List SV->Option Con:=(pD .ratio fun a=>(pD .ratio fun b=>(pE (.det (jR a b) (.v (.bool (gl a b)))))))
theorem qM:FnOk Tryz.prog 123 oN:=by
 have hG:ConsOk Tryz.prog (mkG [(96,iV)] []):=av (cgc jQ cg0) cg0;refine aR [.o] mixed al hG (fn:=Tryz.f123) (c:=ae Tryz.f123) kr kr kr kr (aS fun a=>(aS fun b=>(aD (fun hp=>?_))));dsimp only[aC]at hp;unfold jR at hp;refine⟨nbl rfl,L0,ah _,?_⟩
 ·unfold ae Tryz.f123;try unfold gl
  exact zq1
def kC (a:Ratio)(b:Ratio):Int×Int:=(bif(!(gl a b))then(0,120)else(bif(mS a b)then((-1),0)else(bif(mS b a)then(1,0)else(0,0))))
def pG (a:Ratio)(b:Ratio):Prop:=(jR a b)
@[go_sem] def uq:List SV->Option Con:=(pD .ratio fun a=>(pD .ratio fun b=>(pE (.det (pG a b) (.tup [.v (.int .i64 ((kC a b).1)),.v (.int .i64 ((kC a b).2))])))))
theorem z8:FnOk Tryz.prog 151 uq:=by
 have hG:ConsOk Tryz.prog (mkG [(123,oN),(154,sB)] []):=av (cgc qM (cgc xR cg0)) cg0;refine aR [.o,.o] mixed al hG (fn:=Tryz.f151) (c:=ae Tryz.f151) kr kr kr kr (aS fun a=>(aS fun b=>(aD (fun hp=>?_))));dsimp only[aC]at hp;unfold pG at hp;refine⟨nbl rfl,L0,ah _,?_⟩
 ·unfold ae Tryz.f151;try unfold kC
  exact zq1
@[go_sem] def gE (a1:Int)(k_0:Nat)(s_0:Int×Int):(Int×Int)⊕(Int×Int):=(bif(decide (s_0.2< (-1)))then .inr (s_0.2,(Int.tmod s_0.1 s_0.2))else .inl (s_0.1,s_0.2))
def jf (a1:Int)(k_0:Nat)(s_0:Int×Int):Prop:=((decide (s_0.2< (-1)))=true->s_0.2≠0)
def kD (a0:Int)(a1:Int):Ratio×Int:=letI q0:=bif(decide (a0 > 0))then(i64.wrap (0 - a0))else a0;letI q1:=bif(decide (a1 > 0))then(i64.wrap (0 - a1))else a1;letI q2:=i64.wrap (Int.tdiv q0 (-1));letI q3:=i64.wrap (Int.tdiv q1 (-1));letI q4:=(decide (a0<0)) !=(decide (a1<0));letI q5:=decide (q0< (-1073741824));letI q6:=decide (q1< (-1073741824));(bif(a1==0)then(({ n:=0,d:=0}:Ratio),120)else(match aj (gE a1) (Int.natAbs a1+2) 0 (q0,q1)with| .inl x_0_0=>(bif(x_0_0.2==(-1))then(bif(q5||q6)then(({ n:=0,d:=0}:Ratio),2)else(bif((decide (q2 > 1073741824)) ||(decide (q3 > 1073741824)))then(({ n:=0,d:=0}:Ratio),2)else(bif q4 then(({ n:=(i64.wrap (0 - q2)),d:=q3}:Ratio),0)else(({ n:=q2,d:=q3}:Ratio),0))))else(bif((x_0_0.1==(-1))&&(q5||q6))then(({ n:=0,d:=0}:Ratio),2)else(bif((decide ((i64.wrap (Int.tdiv q0 x_0_0.1)) > 1073741824)) ||(decide ((i64.wrap (Int.tdiv q1 x_0_0.1)) > 1073741824)))then(({ n:=0,d:=0}:Ratio),2)else(bif q4 then(({ n:=(i64.wrap (0 - (i64.wrap (Int.tdiv q0 x_0_0.1)))),d:=(i64.wrap (Int.tdiv q1 x_0_0.1))}:Ratio),0)else(({ n:=(i64.wrap (Int.tdiv q0 x_0_0.1)),d:=(i64.wrap (Int.tdiv q1 x_0_0.1))}:Ratio),0))))) | .inr s_0=>default))
def jS (a0:Int)(a1:Int):Prop:=letI q1:=bif(decide (a0 > 0))then(i64.wrap (0 - a0))else a0;letI q2:=bif(decide (a1 > 0))then(i64.wrap (0 - a1))else a1;letI q0:=(q1,q2);letI q3:=Int.natAbs a1+2;letI q4:=gE a1;letI q5:=decide (q1< (-1073741824));letI q6:=decide (q2< (-1073741824));((a1==0)=false->(okI q4 (jf a1) q3 0 q0/\(∀ z_,aj q4 q3 0 q0≠ .inr z_)/\(∀ x_0_0,aj q4 q3 0 q0=.inl x_0_0->(((x_0_0.2==(-1))=true->((q5||q6)=false->((-1)≠0/\(-1)≠0)))/\((x_0_0.2==(-1))=false->(((x_0_0.1==(-1))&&(q5||q6))=false->(x_0_0.1≠0/\x_0_0.1≠0)))))))
@[go_sem] def sC:List SV->Option Con:=(pI fun a0=>(pI fun a1=>(pE (.det (jS a0 a1) (.tup [.agg (cellsOf .ratio ((kD a0 a1).1)),.v (.int .i64 ((kD a0 a1).2))])))))
theorem xS:FnOk Tryz.prog 124 sC:=by
 have hG:ConsOk Tryz.prog (mkG [] []):=av cg0 cg0;refine aR [.st .ratio,.o] mixed al hG (fn:=Tryz.f124) (c:=ae Tryz.f124) kr kr kr kr (cq fun a0=>(cq fun a1=>(aD (fun hp=>?_))));dsimp only[aC]at hp;unfold jS at hp;refine⟨nbl rfl,(fun id st=>bif Nat.beq id 1000016 then some (JC (⟨[(0,.v (.int .i64 a0)),(1,.v (.int .i64 a1)),(4,.ptr 0 0),(6,.v (.int .i64 (bif(decide (a0 > 0))then(i64.wrap (0 - a0))else a0)))],[.cells [.v (.int .i64 0),.v (.int .i64 0)]]⟩))else bif Nat.beq id 1000021 then some (JC (⟨[(0,.v (.int .i64 a0)),(1,.v (.int .i64 a1)),(4,.ptr 0 0),(6,.v (.int .i64 (bif(decide (a0 > 0))then(i64.wrap (0 - a0))else a0))),(7,.v (.int .i64 (bif(decide (a1 > 0))then(i64.wrap (0 - a1))else a1)))],[.cells [.v (.int .i64 0),.v (.int .i64 0)]]⟩))else bif Nat.beq id 0 then some (LCV (ρ:=(Int×Int)) (σ:=(Int×Int)) 1 [] [0] (fun k_0 s_0=>⟨[(0,.v (.int .i64 a0)),(1,.v (.int .i64 a1)),(4,.ptr 0 0),(6,.v (.int .i64 (bif(decide (a0 > 0))then(i64.wrap (0 - a0))else a0))),(7,.v (.int .i64 (bif(decide (a1 > 0))then(i64.wrap (0 - a1))else a1))),(8,.v (.int .i64 s_0.1)),(9,.v (.int .i64 s_0.2))],[.cells [.v (.int .i64 0),.v (.int .i64 0)]]⟩) (gE a1) (jf a1) (Int.natAbs a1+2) ((bif(decide (a0 > 0))then(i64.wrap (0 - a0))else a0),(bif(decide (a1 > 0))then(i64.wrap (0 - a1))else a1)) (fun _=>.normal) (fun x_0_0=>⟨[(0,.v (.int .i64 a0)),(1,.v (.int .i64 a1)),(4,.ptr 0 0),(6,.v (.int .i64 (bif(decide (a0 > 0))then(i64.wrap (0 - a0))else a0))),(7,.v (.int .i64 (bif(decide (a1 > 0))then(i64.wrap (0 - a1))else a1))),(8,.v (.int .i64 x_0_0.1)),(9,.v (.int .i64 x_0_0.2))],[.cells [.v (.int .i64 0),.v (.int .i64 0)]]⟩) st)else none),?_,?_⟩
 ·unfold ae Tryz.f124;simp only[ak,true_and,and_true]
  ·refine ez mixed al hG kr (fun _=>rfl) fun k_0 s_0 hq0=>⟨L0,ah _,?_⟩
   ·unfold jf at hq0;exact cH (jl [0])
 ·unfold ae Tryz.f124;try unfold kD
  exact zq1
def mA (a:Ratio)(b:Ratio):Ratio×Int:=letI q0:=kD (i64.wrap ((i64.wrap (a.n*b.d))+(i64.wrap (b.n*a.d)))) (i64.wrap (a.d*b.d));(bif(!(gl a b))then(({ n:=0,d:=0}:Ratio),120)else((q0.1),q0.2))
def lB (a:Ratio)(b:Ratio):Prop:=((jR a b)/\((!(gl a b))=false->(jS (i64.wrap ((i64.wrap (a.n*b.d))+(i64.wrap (b.n*a.d)))) (i64.wrap (a.d*b.d)))))
@[go_sem] def ur:List SV->Option Con:=(pD .ratio fun a=>(pD .ratio fun b=>(pE (.det (lB a b) (.tup [.agg (cellsOf .ratio ((mA a b).1)),.v (.int .i64 ((mA a b).2))])))))
theorem Aa:FnOk Tryz.prog 97 ur:=by
 have hG:ConsOk Tryz.prog (mkG [(123,oN),(124,sC)] []):=av (cgc qM (cgc xS cg0)) cg0;refine aR [.st .ratio,.o] mixed al hG (fn:=Tryz.f97) (c:=ae Tryz.f97) kr kr kr kr (aS fun a=>(aS fun b=>(aD (fun hp=>?_))));dsimp only[aC]at hp;unfold lB at hp;refine⟨nbl rfl,L0,ah _,?_⟩
 ·unfold ae Tryz.f97;try unfold mA
  exact zq1
def nB (n:Int)(d:Int):Int:=(bif(decide ((Int.tmod n d) <0))then(i64.wrap ((i64.wrap (Int.tdiv n d)) - 1))else(i64.wrap (Int.tdiv n d)))
def kU (n:Int)(d:Int):Prop:=(d≠0/\d≠0)
@[go_sem] def qN:List SV->Option Con:=(pI fun n=>(pI fun d=>(pE (.det (kU n d) (.v (.int .i64 (nB n d)))))))
theorem wR:FnOk Tryz.prog 114 qN:=by
 have hG:ConsOk Tryz.prog (mkG [] []):=av cg0 cg0;refine aR [.o] mixed al hG (fn:=Tryz.f114) (c:=ae Tryz.f114) kr kr kr kr (cq fun n=>(cq fun d=>(aD (fun hp=>?_))));dsimp only[aC]at hp;unfold kU at hp;refine⟨nbl rfl,L0,ah _,?_⟩
 ·unfold ae Tryz.f114;try unfold nB
  exact zq1
def lC (a:Ratio)(n:Int):Int×Int×Int:=(bif(!(cF a))then(0,0,120)else(bif((decide (n< (-1073741824))) ||(decide (n > 1073741824)))then(0,0,1)else((nB (i64.wrap (a.n*n)) a.d),(i64.wrap (0 - (nB (i64.wrap ((i64.wrap (0 - a.n))*n)) a.d))),0)))
def nH (a:Ratio)(n:Int):Prop:=((eE a)/\((!(cF a))=false->(((decide (n< (-1073741824))) ||(decide (n > 1073741824)))=false->((kU (i64.wrap (a.n*n)) a.d)/\(kU (i64.wrap ((i64.wrap (0 - a.n))*n)) a.d)))))
@[go_sem] def qO:List SV->Option Con:=(pD .ratio fun a=>(pI fun n=>(pE (.det (nH a n) (.tup [.v (.int .i64 ((lC a n).1)),.v (.int .i64 ((lC a n).2.1)),.v (.int .i64 ((lC a n).2.2))])))))
theorem wS:FnOk Tryz.prog 83 qO:=by
 have hG:ConsOk Tryz.prog (mkG [(96,iV),(114,qN)] []):=av (cgc jQ (cgc wR cg0)) cg0;refine aR [.o,.o,.o] mixed al hG (fn:=Tryz.f83) (c:=ae Tryz.f83) kr kr kr kr (aS fun a=>(cq fun n=>(aD (fun hp=>?_))));dsimp only[aC]at hp;unfold nH at hp;refine⟨nbl rfl,L0,ah _,?_⟩
 ·unfold ae Tryz.f83;try unfold lC
  exact zq1
def d5 (x:Ratio×Ratio):Bool:=(bif(((ft x.1) !=0) ||((ft x.2) !=0))then false else(((decide (x.1.n>=0))&&(decide ((kC x.1 x.2).1<=0)))&&(decide (x.2.n<=x.2.d))))
def jT (x:Ratio×Ratio):Prop:=((kT x.1)/\((((ft x.1) !=0)=false->(kT x.2))/\((((ft x.1) !=0) ||((ft x.2) !=0))=false->(pG x.1 x.2))))
@[go_sem] def pH:List SV->Option Con:=(pD .ratio2 fun x=>(pE (.det (jT x) (.v (.bool (d5 x))))))
theorem uU:FnOk Tryz.prog 144 pH:=by
 have hG:ConsOk Tryz.prog (mkG [(150,qL),(151,uq)] []):=av (cgc wQ (cgc z8 cg0)) cg0;refine aR [.o] mixed al hG (fn:=Tryz.f144) (c:=ae Tryz.f144) kr kr kr kr (aS fun x=>(aD (fun hp=>?_)));dsimp only[aC]at hp;unfold jT at hp;refine⟨nbl rfl,L0,ah _,?_⟩
 ·unfold ae Tryz.f144;try unfold d5
  exact zq1
def lD (x:Reach):Bool:=(bif(((!(aw x.delay 1 16)) ||(!(aw x.cap 0 1073741824))) ||(!(aw x.bank 0 1099511627776)))then false else(bif(((!(aw x.siphon 0 (if x.bank<x.cap then x.bank else x.cap))) ||(!(aw x.evap.lo 0 x.evap.hi))) ||(decide (x.evap.hi > 1073741824)))then false else(d5 x.seep)))
def kV (x:Reach):Prop:=((((!(aw x.delay 1 16)) ||(!(aw x.cap 0 1073741824))) ||(!(aw x.bank 0 1099511627776)))=false->((((!(aw x.siphon 0 (if x.bank<x.cap then x.bank else x.cap))) ||(!(aw x.evap.lo 0 x.evap.hi))) ||(decide (x.evap.hi > 1073741824)))=false->(jT x.seep)))
@[go_sem] def qP:List SV->Option Con:=(pD .reach fun x=>(pE (.det (kV x) (.v (.bool (lD x))))))
theorem wT:FnOk Tryz.prog 120 qP:=by
 have hG:ConsOk Tryz.prog (mkG [(92,fP),(144,pH)] []):=av (cgc gA (cgc uU cg0)) cg0;refine aR [.o] mixed al hG (fn:=Tryz.f120) (c:=ae Tryz.f120) kr kr kr kr (aS fun x=>(aD (fun hp=>?_)));dsimp only[aC]at hp;unfold kV at hp;refine⟨nbl rfl,L0,ah _,?_⟩
 ·unfold ae Tryz.f120;try unfold lD
  exact zq1
@[go_sem] def eJ (l_:List Reach)(k_0:Nat)(s_0:Unit):Unit⊕Unit:=letI q0:=l_.getD k_0 default;letI q1:=(k_0:Int);(bif(((q1==0)&&(q0.up !=(-1))) ||((decide (q1 > 0))&&(!(aw (q0.up) 0 (i64.wrap (q1 - 1))))))then .inl ()else(bif(!(lD q0))then .inl ()else .inr ()))
def jq (l_:List Reach)(k_0:Nat)(s_0:Unit):Prop:=(l_.length<=bb->(((((k_0:Int) ==0)&&((l_.getD k_0 default).up !=(-1))) ||((decide ((k_0:Int) > 0))&&(!(aw ((l_.getD k_0 default).up) 0 (i64.wrap ((k_0:Int) - 1))))))=false->(kV (l_.getD k_0 default))))
def iW (l_:List Reach):Bool:=(match aj (eJ l_) l_.length 0 ()with| .inl x_0_0=>false| .inr s_0=>(decide ((l_.length:Int) > 0)))
def lZ (l_:List Reach):Prop:=okI (eJ l_) (jq l_) l_.length 0 ()
@[go_sem] def o4:List SV->Option Con:=(pR .reach fun l_=>(pE (.det (lZ l_) (.v (.bool (iW l_))))))
theorem tS:FnOk Tryz.prog 93 o4:=by
 have hG:ConsOk Tryz.prog (mkG [(92,fP),(120,qP)] []):=av (cgc gA (cgc wT cg0)) cg0;refine aR [.o] mixed al hG (fn:=Tryz.f93) (c:=ae Tryz.f93) kr kr kr kr (dN fun l_=>(aD (fun hp=>?_)));dsimp only[aC]at hp;unfold lZ at hp;refine⟨nbl rfl,(fun id st=>bif Nat.beq id 0 then some (LCR (ρ:=Unit) (σ:=Unit) 0 [] [] (fun k_0 s_0=>⟨[(0,.rs .reach l_),(3,.v (.int .i64 (k_0:Int)))],[]⟩) (eJ l_) (jq l_) l_.length () (True) (fun _=>.ret) (fun x_0_0=>⟨[(2,.v (.bool false))],[]⟩) st)else none),?_,?_⟩
 ·unfold ae Tryz.f93;simp only[ak,true_and,and_true]
  ·refine dE (l_.length<=bb) mixed al hG kr (fun _=>rfl) (l_.length:Int) rfl gX (fun hb0 k_0 s_0 hlt0 hq0 hw hc=>⟨L0,ah _,?_⟩) (fun hb0 s_0 hc=>?_) fun hb0 k_0 s_0=>?_
   ·unfold jq at hq0;try simp only[hw,Int.toNat_natCast]at hq0
    exact bY (jl [])
   ·exact bZ (jl [])
   ·exact zq7
 ·unfold ae Tryz.f93;try unfold iW
  exact zq1
@[go_sem] def gY (a0:District)(k_0:Nat)(s_0:Unit):Unit⊕Unit:=(bif(!(aw ((a0.crops.getD k_0 default).need) 0 1048576))then .inl ()else .inr ())
@[go_sem] def gZ (a0:District)(k_1:Nat)(s_1:Unit):Unit⊕Unit:=letI q0:=a0.farms.getD k_1 default;(bif((!(aw (q0.reach) 0 (i64.wrap ((a0.reaches.length:Int) - 1)))) ||(!(aw (q0.area) 0 1048576)))then .inl ()else(bif(((q0.area==0)&&(q0.crop !=(-1))) ||((decide (q0.area > 0))&&(!(aw (q0.crop) 0 (i64.wrap ((a0.crops.length:Int) - 1))))))then .inl ()else .inr ()))
def lE (a0:District):Bool:=(match aj (gY a0) a0.crops.length 0 ()with| .inl x_0_0=>false| .inr s_0=>(match aj (gZ a0) a0.farms.length 0 ()with| .inl x_1_0=>false| .inr s_1=>true))
@[go_sem] def qQ:List SV->Option Con:=(pD .district fun a0=>(pE (.det True (.v (.bool (lE a0))))))
theorem HT {p:Prop}(h:p:=by simp only[go_sem,Nat.reduceBEq,Nat.reduceLeDiff,Nat.reduceLT,decide_true,Nat.reduceAdd,Nat.reduceSub,Nat.reduceMul,Int.reduceLE,Int.reduceLT,Int.reduceToNat,Int.reduceNeg,reduceCtorEq,hb1]):p:=h
theorem wU:FnOk Tryz.prog 94 qQ:=by
 have hG:ConsOk Tryz.prog (mkG [(92,fP)] []):=av (cgc gA cg0) cg0;refine aR [.o] mixed al hG (fn:=Tryz.f94) (c:=ae Tryz.f94) kr kr kr kr (aS fun a0=>(aD (fun hp=>?_)));dsimp only[aC]at hp;refine⟨nbl rfl,(fun id st=>bif Nat.beq id 0 then some (LCR (ρ:=Unit) (σ:=Unit) 1 [] [0] (fun k_0 s_0=>⟨[(1,.ptr 0 0),(3,.v (.int .i64 (k_0:Int)))],[.cells (cellsOf .district a0)]⟩) (gY a0) pT a0.crops.length () (True) (fun _=>.ret) (fun x_0_0=>⟨[(2,.v (.bool false))],[.dead]⟩) st)else bif Nat.beq id 2 then some (LCR (ρ:=Unit) (σ:=Unit) 1 [] [0] (fun k_1 s_1=>⟨[(1,.ptr 0 0),(4,.v (.int .i64 (k_1:Int)))],[.cells (cellsOf .district a0)]⟩) (gZ a0) pT a0.farms.length () (True) (fun _=>.ret) (fun x_1_0=>⟨[(2,.v (.bool false))],[.dead]⟩) st)else none),?_,?_⟩
 ·unfold ae Tryz.f94;simp only[ak,true_and,and_true];refine⟨?_,?_⟩
  ·refine dE (a0.crops.length<=bb) mixed al hG kr (fun _=>rfl) (a0.crops.length:Int) rfl gX (fun hb0 k_0 s_0 hlt0 _ hw hc=>⟨L0,ah _,?_⟩) (fun hb0 s_0 hc=>?_) fun hb0 k_0 s_0=>?_
   ·exact bY (jl [0])
   ·exact bZ (jl [0])
   ·exact zq7
  ·refine dE (a0.farms.length<=bb) mixed al hG kr (fun _=>rfl) (a0.farms.length:Int) rfl gX (fun hb1 k_1 s_1 hlt1 _ hw hc=>⟨L0,ah _,?_⟩) (fun hb1 s_1 hc=>?_) fun hb1 k_1 s_1=>?_
   ·exact bY (jl [0])
   ·exact bZ (jl [0])
   ·exact HT
 ·unfold ae Tryz.f94;try unfold lE
  exact zq1
def lF (a0:District)(a1:Right):Bool:=letI q0:=(((a1.rank==0)&&(a1.litres==0))&&(a1.every==0))&&(a1.length==0);(bif((((!(aw a1.farm 0 (i64.wrap ((a0.farms.length:Int) - 1)))) ||(!(aw a1.reach 0 (i64.wrap ((a0.reaches.length:Int) - 1))))) ||(!(aw a1.since 0 a1.to))) ||(decide (a1.to>=a0.hours)))then false else(bif(a1.kind==1)then(((((a1.reach==0)&&(aw a1.rank 0 1048576))&&(aw a1.litres 1 1073741824))&&(aw a1.length 1 a1.every))&&(decide (a1.every<=a0.hours)))else(bif(a1.kind==2)then((q0&&(a1.since==0))&&(a1.to==(i64.wrap (a0.hours - 1))))else(bif(a1.kind==3)then q0 else false))))
@[go_sem] def qR:List SV->Option Con:=(pD .district fun a0=>(pD .right fun a1=>(pE (.det True (.v (.bool (lF a0 a1)))))))
theorem wV:FnOk Tryz.prog 95 qR:=by
 have hG:ConsOk Tryz.prog (mkG [(92,fP)] []):=av (cgc gA cg0) cg0;refine aR [.o] mixed al hG (fn:=Tryz.f95) (c:=ae Tryz.f95) kr kr kr kr (aS fun a0=>(aS fun a1=>(aD (fun hp=>?_))));dsimp only[aC]at hp;refine⟨nbl rfl,L0,ah _,?_⟩
 ·unfold ae Tryz.f95;try unfold lF
  exact zq1
@[go_sem] def g5 (a0:District)(k_0:Nat)(s_0:Unit):Unit⊕Unit:=(bif(!(lF a0 (a0.rights.getD k_0 default)))then .inl ()else .inr ())
@[go_sem] def g6 (a0:District)(k_1:Nat)(s_1:Unit):Unit⊕Unit:=letI q0:=a0.duties.getD k_1 default;(bif(((!(aw (q0.farm) 0 (i64.wrap ((a0.farms.length:Int) - 1)))) ||(!(aw (q0.reach) 0 (i64.wrap ((a0.reaches.length:Int) - 1))))) ||(!(aw (q0.due) 0 a0.hours)))then .inl ()else .inr ())
def jz (a0:District):Bool:=(bif(((!(aw a0.hours 1 4096)) ||(!(aw a0.tank.start 0 a0.tank.cap))) ||(decide (a0.tank.cap > 1099511627776)))then false else(bif((!(iW a0.reaches)) ||(!(lE a0)))then false else(match aj (g5 a0) a0.rights.length 0 ()with| .inl x_0_0=>false| .inr s_0=>(match aj (g6 a0) a0.duties.length 0 ()with| .inl x_1_0=>false| .inr s_1=>true))))
def kW (a0:District):Prop:=((((!(aw a0.hours 1 4096)) ||(!(aw a0.tank.start 0 a0.tank.cap))) ||(decide (a0.tank.cap > 1099511627776)))=false->(lZ a0.reaches))
@[go_sem] def qS:List SV->Option Con:=(pD .district fun a0=>(pE (.det (kW a0) (.v (.bool (jz a0))))))
theorem wW:FnOk Tryz.prog 68 qS:=by
 have hG:ConsOk Tryz.prog (mkG [(92,fP),(93,fun l=>o4 (cX [.sl .reach] l)),(94,fun l=>qQ (cX [.st .district] l)),(95,fun l=>qR (cX [.st .district,.st .right] l))] []):=av (cgc gA (cgc (tS.norm [.sl .reach]) (cgc (wU.norm [.st .district]) (cgc (wV.norm [.st .district,.st .right]) cg0)))) cg0;refine aR [.o] mixed al hG (fn:=Tryz.f68) (c:=ae Tryz.f68) kr kr kr kr (aS fun a0=>(aD (fun hp=>?_)));dsimp only[aC]at hp;unfold kW at hp;refine⟨nbl rfl,(fun id st=>bif Nat.beq id 0 then some (LCR (ρ:=Unit) (σ:=Unit) 1 [] [0] (fun k_0 s_0=>⟨[(1,.ptr 0 0),(3,.v (.int .i64 (k_0:Int)))],[.cells (cellsOf .district a0)]⟩) (g5 a0) pT a0.rights.length () (True) (fun _=>.ret) (fun x_0_0=>⟨[(2,.v (.bool false))],[.dead]⟩) st)else bif Nat.beq id 2 then some (LCR (ρ:=Unit) (σ:=Unit) 1 [] [0] (fun k_1 s_1=>⟨[(1,.ptr 0 0),(4,.v (.int .i64 (k_1:Int)))],[.cells (cellsOf .district a0)]⟩) (g6 a0) pT a0.duties.length () (True) (fun _=>.ret) (fun x_1_0=>⟨[(2,.v (.bool false))],[.dead]⟩) st)else none),?_,?_⟩
 ·unfold ae Tryz.f68;simp only[ak,true_and,and_true];refine⟨?_,?_⟩
  ·refine dE (a0.rights.length<=bb) mixed al hG kr (fun _=>rfl) (a0.rights.length:Int) rfl gX (fun hb0 k_0 s_0 hlt0 _ hw hc=>⟨L0,ah _,?_⟩) (fun hb0 s_0 hc=>?_) fun hb0 k_0 s_0=>?_
   ·exact bY (jl [0])
   ·exact bZ (jl [0])
   ·exact zq7
  ·refine dE (a0.duties.length<=bb) mixed al hG kr (fun _=>rfl) (a0.duties.length:Int) rfl gX (fun hb1 k_1 s_1 hlt1 _ hw hc=>⟨L0,ah _,?_⟩) (fun hb1 s_1 hc=>?_) fun hb1 k_1 s_1=>?_
   ·exact bY (jl [0])
   ·exact bZ (jl [0])
   ·exact HT
 ·unfold ae Tryz.f68;try unfold jz
  exact zq1
def g7 (d:District):Int:=(bif(((((decide ((d.reaches.length:Int) > 64)) ||(decide ((d.farms.length:Int) > 600))) ||(decide ((d.crops.length:Int) > 32))) ||(decide ((d.rights.length:Int) > 256))) ||(decide ((d.duties.length:Int) > 256)))then 2 else(bif(!(jz d))then 191 else 0))
def kX (d:District):Prop:=(d.reaches.length<=bb->((((((decide ((d.reaches.length:Int) > 64)) ||(decide ((d.farms.length:Int) > 600))) ||(decide ((d.crops.length:Int) > 32))) ||(decide ((d.rights.length:Int) > 256))) ||(decide ((d.duties.length:Int) > 256)))=false->(kW d)))
@[go_sem] def qT:List SV->Option Con:=(pD .district fun d=>(pE (.det (kX d) (.v (.int .i64 (g7 d))))))
theorem wX:FnOk Tryz.prog 44 qT:=by
 have hG:ConsOk Tryz.prog (mkG [(68,fun l=>qS (cX [.st .district] l))] []):=av (cgc (wW.norm [.st .district]) cg0) cg0;refine aR [.o] mixed al hG (fn:=Tryz.f44) (c:=ae Tryz.f44) kr kr kr kr (aS fun d=>(aD (fun hp=>?_)));dsimp only[aC]at hp;unfold kX at hp;refine⟨nbl rfl,L0,ah _,?_⟩
 ·unfold ae Tryz.f44;try unfold g7
  exact zq1
end Go.Sx
end
