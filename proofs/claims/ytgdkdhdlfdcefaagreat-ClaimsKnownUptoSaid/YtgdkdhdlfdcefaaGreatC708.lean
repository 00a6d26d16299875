/- Part of the proof that the law ClaimsKnown returns true and leaves its arguments as they were, for all arguments of bulk at most 1048576 (the Upto form). -/
import Derived.Test.YtgdkdhdlfdcefaaGreatC707
import Derived.Test.YtgdkdhdlfdcefaaGreatProg
set_option linter.all false
set_option maxHeartbeats 4000000
set_option maxRecDepth 100000
section
namespace Go.Sx
open Go.Proofs
theorem kr {p:Prop}(h:p:=by kernel_rfl):p:=h
def ti3:TI:=⟨1,8,false,[(.v (.int .i64 0))],[],0,0,false,false,(some .int),(some .i64),false,[],none,none,1⟩
def ti4:TI:=⟨1,1,false,[(.v (.bool false))],[],0,0,false,false,(some .bool),none,false,[],none,none,3⟩
def ti9:TI:=⟨1,16,false,[(.v (.string (ByteArray.mk #[])))],[],0,0,false,false,(some .str),none,false,[],none,none,2⟩
def KF:TI:=⟨2,16,true,[(.v (.int .i64 0)),(.v (.int .i64 0))],[(0,(1,false)),(1,(1,false))],0,0,false,false,(some .tank),none,false,[1,1],none,none,0⟩
def KG:TI:=⟨1,24,false,[(.v (.slice none 0 0))],[],118,0,true,false,none,none,false,[],none,none,0⟩
def KH:TI:=⟨1,24,false,[(.v (.slice none 0 0))],[],107,0,true,false,none,none,false,[],none,none,0⟩
def KI:TI:=⟨1,24,false,[(.v (.slice none 0 0))],[],120,0,true,false,none,none,false,[],none,none,0⟩
def KJ:TI:=⟨1,24,false,[(.v (.slice none 0 0))],[],61,0,true,false,none,none,false,[],none,none,0⟩
def KK:TI:=⟨1,24,false,[(.v (.slice none 0 0))],[],177,0,true,false,none,none,false,[],none,none,0⟩
def KL:TI:=⟨1,24,false,[(.v (.slice none 0 0))],[],265,0,true,false,none,none,false,[],none,none,0⟩
def KM:TI:=⟨10,184,true,[(.v (.string (ByteArray.mk #[]))),(.v (.int .i64 0)),(.v (.int .i64 0)),(.v (.int .i64 0)),(.v (.slice none 0 0)),(.v (.slice none 0 0)),(.v (.slice none 0 0)),(.v (.slice none 0 0)),(.v (.slice none 0 0)),(.v (.slice none 0 0))],[(0,(1,false)),(1,(1,false)),(2,(2,true)),(4,(1,false)),(5,(1,false)),(6,(1,false)),(7,(1,false)),(8,(1,false)),(9,(1,false))],0,0,false,false,(some .district),none,false,[],none,none,0⟩
def KN:TI:=⟨1,24,false,[(.v (.slice none 0 0))],[],74,0,true,false,none,none,false,[],none,none,0⟩
def KO:TI:=⟨1,24,false,[(.v (.slice none 0 0))],[],51,0,true,false,none,none,false,[],none,none,0⟩
def KP:TI:=⟨1,24,false,[(.v (.slice none 0 0))],[],53,0,true,false,none,none,false,[],none,none,0⟩
def KQ:TI:=⟨5,40,true,[(.v (.int .i64 0)),(.v (.int .i64 0)),(.v (.int .i64 0)),(.v (.int .i64 0)),(.v (.int .i64 0))],[(0,(1,false)),(1,(1,false)),(2,(1,false)),(3,(1,false)),(4,(1,false))],0,0,false,false,(some .claim),none,false,[1,1,1,1,1],none,none,0⟩
def KR:TI:=⟨4,32,true,[(.v (.int .i64 0)),(.v (.int .i64 0)),(.v (.int .i64 0)),(.v (.int .i64 0))],[(0,(1,false)),(1,(1,false)),(2,(1,false)),(3,(1,false))],0,0,false,false,(some .block),none,false,[1,1,1,1],none,none,0⟩
def KS:TI:=⟨1,24,false,[(.v (.slice none 0 0))],[],58,0,true,false,none,none,false,[],none,none,0⟩
def KT:TI:=⟨4,32,true,[(.v (.int .i64 0)),(.v (.int .i64 0)),(.v (.int .i64 0)),(.v (.int .i64 0))],[(0,(1,false)),(1,(1,false)),(2,(1,false)),(3,(1,false))],0,0,false,false,(some .holding),none,false,[1,1,1,1],none,none,0⟩
def KU:TI:=⟨10,88,true,[(.v (.string (ByteArray.mk #[]))),(.v (.int .i64 0)),(.v (.int .i64 0)),(.v (.int .i64 0)),(.v (.int .i64 0)),(.v (.int .i64 0)),(.v (.int .i64 0)),(.v (.int .i64 0)),(.v (.int .i64 0)),(.v (.int .i64 0))],[(0,(1,false)),(1,(1,false)),(2,(1,false)),(3,(1,false)),(4,(1,false)),(5,(1,false)),(6,(1,false)),(7,(1,false)),(8,(1,false)),(9,(1,false))],0,0,false,false,(some .right),none,false,[2,1,1,1,1,1,1,1,1,1],none,none,0⟩
def KV:TI:=⟨1,24,false,[(.v (.slice none 0 0))],[],3,0,true,false,none,none,false,[],none,none,0⟩
def KW:TI:=⟨1,24,false,[(.v (.slice none 0 0))],[],196,0,true,false,none,none,false,[],none,none,0⟩
def KX:TI:=⟨9,88,true,[(.v (.int .i64 0)),(.v (.int .i64 0)),(.v (.int .i64 0)),(.v (.int .i64 0)),(.v (.int .i64 0)),(.v (.slice none 0 0)),(.v (.int .i64 0)),(.v (.int .i64 0)),(.v (.int .i64 0))],[(0,(1,false)),(1,(1,false)),(2,(1,false)),(3,(1,false)),(4,(1,false)),(5,(1,false)),(6,(1,false)),(7,(1,false)),(8,(1,false))],0,0,false,false,(some .deed),none,false,[],none,none,0⟩
def KY:TI:=⟨1,24,false,[(.v (.slice none 0 0))],[],81,0,true,false,none,none,false,[],none,none,0⟩
def KZ:TI:=⟨6,48,true,[(.v (.int .i64 0)),(.v (.int .i64 0)),(.v (.int .i64 0)),(.v (.int .i64 0)),(.v (.int .i64 0)),(.v (.int .i64 0))],[(0,(5,true)),(5,(1,false))],0,0,false,false,(some .claimsFound),none,false,[1,1,1,1,1,1],none,none,0⟩
def K1:TI:=⟨1,8,false,[(.v (.map none))],[],3,0,false,false,none,none,false,[],(some .registerTitle),(some .int),0⟩
def K2:TI:=⟨2,16,true,[(.v (.int .i64 0)),(.v (.int .i64 0))],[(0,(1,false)),(1,(1,false))],0,0,false,false,(some .registerTitle),none,false,[1,1],none,none,0⟩
def EM:TI:=⟨4,40,true,[(.v (.string (ByteArray.mk #[]))),(.v (.int .i64 0)),(.v (.int .i64 0)),(.v (.int .i64 0))],[(0,(1,false)),(1,(1,false)),(2,(1,false)),(3,(1,false))],0,0,false,false,(some .farm),none,false,[2,1,1,1],none,none,0⟩
def EN:TI:=⟨1,8,false,[(.v (.map none))],[],74,0,false,false,none,none,false,[],(some .int),(some .deed),0⟩
def EO:TI:=⟨2,16,true,[(.v (.int .i64 0)),(.v (.int .i64 0))],[(0,(1,false)),(1,(1,false))],0,0,false,false,(some .ratio),none,false,[1,1],none,none,0⟩
def EP:TI:=⟨4,32,true,[(.v (.int .i64 0)),(.v (.int .i64 0)),(.v (.int .i64 0)),(.v (.int .i64 0))],[],113,2,false,true,(some .ratio2),none,false,[],none,none,0⟩
def EQ:TI:=⟨2,16,true,[(.v (.int .i64 0)),(.v (.int .i64 0))],[(0,(1,false)),(1,(1,false))],0,0,false,false,(some .range),none,false,[1,1],none,none,0⟩
def ER:TI:=⟨12,104,true,[(.v (.string (ByteArray.mk #[]))),(.v (.int .i64 0)),(.v (.int .i64 0)),(.v (.int .i64 0)),(.v (.int .i64 0)),(.v (.int .i64 0)),(.v (.int .i64 0)),(.v (.int .i64 0)),(.v (.int .i64 0)),(.v (.int .i64 0)),(.v (.int .i64 0)),(.v (.int .i64 0))],[(0,(1,false)),(1,(1,false)),(2,(1,false)),(3,(1,false)),(4,(1,false)),(5,(1,false)),(6,(2,true)),(8,(4,true))],0,0,false,false,(some .reach),none,false,[],none,none,0⟩
def ES:TI:=⟨2,24,true,[(.v (.string (ByteArray.mk #[]))),(.v (.int .i64 0))],[(0,(1,false)),(1,(1,false))],0,0,false,false,(some .crop),none,false,[2,1],none,none,0⟩
def ET:TI:=⟨1,8,false,[(.v (.map none))],[],3,0,false,false,none,none,false,[],(some .int),(some .int),0⟩
def EU:TI:=⟨1,8,false,[(.v (.map none))],[],4,0,false,false,none,none,false,[],(some .claimsUse),(some .bool),0⟩
def EV:TI:=⟨3,24,true,[(.v (.map none)),(.v (.map none)),(.v (.map none))],[(0,(1,false)),(1,(1,false)),(2,(1,false))],0,0,false,false,(some .claimsLaw),none,false,[],none,none,0⟩
def EW:TI:=⟨2,16,true,[(.v (.int .i64 0)),(.v (.int .i64 0))],[(0,(1,false)),(1,(1,false))],0,0,false,false,(some .claimsUse),none,false,[1,1],none,none,0⟩
def EX:TI:=⟨1,8,false,[(.v (.map none))],[],143,0,false,false,none,none,false,[],(some .int),(some .fnc),0⟩
def EY:TI:=⟨1,8,false,[(.v (.map none))],[],4,0,false,false,none,none,false,[],(some .int),(some .bool),0⟩
def EZ:TI:=⟨1,8,false,[(.v (.int .u64 0))],[],0,0,false,false,none,(some .u64),false,[],none,none,1⟩
def E0:TI:=⟨4,40,true,[(.v (.string (ByteArray.mk #[]))),(.v (.int .i64 0)),(.v (.int .i64 0)),(.v (.int .i64 0))],[(0,(1,false)),(1,(1,false)),(2,(1,false)),(3,(1,false))],0,0,false,false,(some .duty),none,false,[2,1,1,1],none,none,0⟩
def E1:TI:=⟨3,24,true,[(.v (.int .i64 0)),(.v (.int .i64 0)),(.v (.int .i64 0))],[(0,(1,false)),(1,(2,true))],0,0,false,false,(some .part),none,false,[1,1,1],none,none,0⟩
def E2:TI:=⟨1,8,false,[(.v .nilFunc)],[],0,0,false,false,none,none,false,[],none,none,0⟩
def E3:TI:=⟨1,8,true,[(.v .nilFunc)],[(0,(1,false))],0,0,false,false,none,none,false,[],none,none,0⟩
def ts:Tis:=fun t=>(bif Nat.ble t 74 then(bif Nat.ble t 31 then(bif Nat.ble t 24 then(bif Nat.ble t 4 then(bif Nat.ble t 3 then(bif Nat.beq t 3 then some ti3 else none)else(bif Nat.beq t 4 then some ti4 else none))else(bif Nat.ble t 9 then(bif Nat.beq t 9 then some ti9 else none)else(bif Nat.ble t 23 then(bif Nat.beq t 23 then some KF else none)else(bif Nat.beq t 24 then some KG else none))))else(bif Nat.ble t 27 then(bif Nat.ble t 25 then(bif Nat.beq t 25 then some KH else none)else(bif Nat.ble t 26 then(bif Nat.beq t 26 then some KI else none)else(bif Nat.beq t 27 then some KJ else none)))else(bif Nat.ble t 28 then(bif Nat.beq t 28 then some KK else none)else(bif Nat.ble t 29 then(bif Nat.beq t 29 then some KL else none)else(bif Nat.beq t 31 then some KM else none)))))else(bif Nat.ble t 53 then(bif Nat.ble t 36 then(bif Nat.ble t 32 then(bif Nat.beq t 32 then some KN else none)else(bif Nat.ble t 35 then(bif Nat.beq t 35 then some KO else none)else(bif Nat.beq t 36 then some ti3 else none)))else(bif Nat.ble t 39 then(bif Nat.beq t 39 then some KP else none)else(bif Nat.ble t 51 then(bif Nat.beq t 51 then some KQ else none)else(bif Nat.beq t 53 then some KR else none))))else(bif Nat.ble t 61 then(bif Nat.ble t 54 then(bif Nat.beq t 54 then some KS else none)else(bif Nat.ble t 58 then(bif Nat.beq t 58 then some KT else none)else(bif Nat.beq t 61 then some KU else none)))else(bif Nat.ble t 62 then(bif Nat.beq t 62 then some KV else none)else(bif Nat.ble t 72 then(bif Nat.beq t 72 then some KW else none)else(bif Nat.beq t 74 then some KX else none))))))else(bif Nat.ble t 120 then(bif Nat.ble t 107 then(bif Nat.ble t 81 then(bif Nat.ble t 77 then(bif Nat.beq t 77 then some KY else none)else(bif Nat.beq t 81 then some KZ else none))else(bif Nat.ble t 92 then(bif Nat.beq t 92 then some K1 else none)else(bif Nat.ble t 99 then(bif Nat.beq t 99 then some K2 else none)else(bif Nat.beq t 107 then some EM else none))))else(bif Nat.ble t 114 then(bif Nat.ble t 110 then(bif Nat.beq t 110 then some EN else none)else(bif Nat.ble t 113 then(bif Nat.beq t 113 then some EO else none)else(bif Nat.beq t 114 then some EP else none)))else(bif Nat.ble t 116 then(bif Nat.beq t 116 then some EQ else none)else(bif Nat.ble t 118 then(bif Nat.beq t 118 then some ER else none)else(bif Nat.beq t 120 then some ES else none)))))else(bif Nat.ble t 145 then(bif Nat.ble t 124 then(bif Nat.ble t 121 then(bif Nat.beq t 121 then some ET else none)else(bif Nat.ble t 122 then(bif Nat.beq t 122 then some EU else none)else(bif Nat.beq t 124 then some EV else none)))else(bif Nat.ble t 132 then(bif Nat.beq t 132 then some EW else none)else(bif Nat.ble t 141 then(bif Nat.beq t 141 then some EX else none)else(bif Nat.beq t 145 then some EY else none))))else(bif Nat.ble t 177 then(bif Nat.ble t 153 then(bif Nat.beq t 153 then some EZ else none)else(bif Nat.ble t 170 then(bif Nat.beq t 170 then some ti3 else none)else(bif Nat.beq t 177 then some E0 else none)))else(bif Nat.ble t 196 then(bif Nat.beq t 196 then some E1 else none)else(bif Nat.ble t 225 then(bif Nat.beq t 225 then some E2 else none)else(bif Nat.beq t 227 then some E3 else none)))))))
theorem Om:co Tryz.prog 3=some ti3:=by kernel_rfl
theorem On:co Tryz.prog 4=some ti4:=by kernel_rfl
theorem Oo:co Tryz.prog 9=some ti9:=by kernel_rfl
theorem K3:co Tryz.prog 23=some KF:=by kernel_rfl
theorem K4:co Tryz.prog 24=some KG:=by kernel_rfl
theorem K5:co Tryz.prog 25=some KH:=by kernel_rfl
theorem K6:co Tryz.prog 26=some KI:=by kernel_rfl
theorem K7:co Tryz.prog 27=some KJ:=by kernel_rfl
theorem K8:co Tryz.prog 28=some KK:=by kernel_rfl
theorem K9:co Tryz.prog 29=some KL:=by kernel_rfl
theorem K_:co Tryz.prog 31=some KM:=by kernel_rfl
theorem La:co Tryz.prog 32=some KN:=by kernel_rfl
theorem Lb:co Tryz.prog 35=some KO:=by kernel_rfl
theorem Lc:co Tryz.prog 36=some ti3:=by kernel_rfl
theorem Ld:co Tryz.prog 39=some KP:=by kernel_rfl
theorem Le:co Tryz.prog 51=some KQ:=by kernel_rfl
theorem Lf:co Tryz.prog 53=some KR:=by kernel_rfl
theorem Lg:co Tryz.prog 54=some KS:=by kernel_rfl
theorem Lh:co Tryz.prog 58=some KT:=by kernel_rfl
theorem Li:co Tryz.prog 61=some KU:=by kernel_rfl
theorem Lj:co Tryz.prog 62=some KV:=by kernel_rfl
theorem Lk:co Tryz.prog 72=some KW:=by kernel_rfl
theorem Ll:co Tryz.prog 74=some KX:=by kernel_rfl
theorem Lm:co Tryz.prog 77=some KY:=by kernel_rfl
theorem Ln:co Tryz.prog 81=some KZ:=by kernel_rfl
theorem Lo:co Tryz.prog 92=some K1:=by kernel_rfl
theorem Lp:co Tryz.prog 99=some K2:=by kernel_rfl
theorem If:co Tryz.prog 107=some EM:=by kernel_rfl
theorem Ig:co Tryz.prog 110=some EN:=by kernel_rfl
theorem Ih:co Tryz.prog 113=some EO:=by kernel_rfl
theorem Ii:co Tryz.prog 114=some EP:=by kernel_rfl
theorem Ij:co Tryz.prog 116=some EQ:=by kernel_rfl
theorem Ik:co Tryz.prog 118=some ER:=by kernel_rfl
theorem Il:co Tryz.prog 120=some ES:=by kernel_rfl
theorem Im:co Tryz.prog 121=some ET:=by kernel_rfl
theorem In:co Tryz.prog 122=some EU:=by kernel_rfl
theorem Io:co Tryz.prog 124=some EV:=by kernel_rfl
theorem Ip:co Tryz.prog 132=some EW:=by kernel_rfl
theorem Iq:co Tryz.prog 141=some EX:=by kernel_rfl
theorem Ir:co Tryz.prog 145=some EY:=by kernel_rfl
theorem Is:co Tryz.prog 153=some EZ:=by kernel_rfl
theorem It:co Tryz.prog 170=some ti3:=by kernel_rfl
theorem Iu:co Tryz.prog 177=some E0:=by kernel_rfl
theorem Iv:co Tryz.prog 196=some E1:=by kernel_rfl
theorem Iw:co Tryz.prog 225=some E2:=by kernel_rfl
theorem Ix:co Tryz.prog 227=some E3:=by kernel_rfl
theorem am:Tis.ok ts Tryz.prog:=(Tis.ok_node (Tis.ok_node (Tis.ok_node (Tis.ok_node (Tis.ok_node (Tis.ok_leaf Om) (Tis.ok_leaf On)) (Tis.ok_node (Tis.ok_leaf Oo) (Tis.ok_node (Tis.ok_leaf K3) (Tis.ok_leaf K4)))) (Tis.ok_node (Tis.ok_node (Tis.ok_leaf K5) (Tis.ok_node (Tis.ok_leaf K6) (Tis.ok_leaf K7))) (Tis.ok_node (Tis.ok_leaf K8) (Tis.ok_node (Tis.ok_leaf K9) (Tis.ok_leaf K_))))) (Tis.ok_node (Tis.ok_node (Tis.ok_node (Tis.ok_leaf La) (Tis.ok_node (Tis.ok_leaf Lb) (Tis.ok_leaf Lc))) (Tis.ok_node (Tis.ok_leaf Ld) (Tis.ok_node (Tis.ok_leaf Le) (Tis.ok_leaf Lf)))) (Tis.ok_node (Tis.ok_node (Tis.ok_leaf Lg) (Tis.ok_node (Tis.ok_leaf Lh) (Tis.ok_leaf Li))) (Tis.ok_node (Tis.ok_leaf Lj) (Tis.ok_node (Tis.ok_leaf Lk) (Tis.ok_leaf Ll)))))) (Tis.ok_node (Tis.ok_node (Tis.ok_node (Tis.ok_node (Tis.ok_leaf Lm) (Tis.ok_leaf Ln)) (Tis.ok_node (Tis.ok_leaf Lo) (Tis.ok_node (Tis.ok_leaf Lp) (Tis.ok_leaf If)))) (Tis.ok_node (Tis.ok_node (Tis.ok_leaf Ig) (Tis.ok_node (Tis.ok_leaf Ih) (Tis.ok_leaf Ii))) (Tis.ok_node (Tis.ok_leaf Ij) (Tis.ok_node (Tis.ok_leaf Ik) (Tis.ok_leaf Il))))) (Tis.ok_node (Tis.ok_node (Tis.ok_node (Tis.ok_leaf Im) (Tis.ok_node (Tis.ok_leaf In) (Tis.ok_leaf Io))) (Tis.ok_node (Tis.ok_leaf Ip) (Tis.ok_node (Tis.ok_leaf Iq) (Tis.ok_leaf Ir)))) (Tis.ok_node (Tis.ok_node (Tis.ok_leaf Is) (Tis.ok_node (Tis.ok_leaf It) (Tis.ok_leaf Iu))) (Tis.ok_node (Tis.ok_leaf Iv) (Tis.ok_node (Tis.ok_leaf Iw) (Tis.ok_leaf Ix)))))))
@[go_sem] theorem ts_3:ts 3=some ti3:=(rfl)
@[go_sem] theorem ts_4:ts 4=some ti4:=(rfl)
@[go_sem] theorem ts_9:ts 9=some ti9:=(rfl)
@[go_sem] theorem ts_23:ts 23=some KF:=(rfl)
@[go_sem] theorem ts_24:ts 24=some KG:=(rfl)
@[go_sem] theorem ts_25:ts 25=some KH:=(rfl)
@[go_sem] theorem ts_26:ts 26=some KI:=(rfl)
@[go_sem] theorem ts_27:ts 27=some KJ:=(rfl)
@[go_sem] theorem ts_28:ts 28=some KK:=(rfl)
@[go_sem] theorem ts_29:ts 29=some KL:=(rfl)
@[go_sem] theorem ts_31:ts 31=some KM:=(rfl)
@[go_sem] theorem ts_32:ts 32=some KN:=(rfl)
@[go_sem] theorem ts_35:ts 35=some KO:=(rfl)
@[go_sem] theorem ts_36:ts 36=some ti3:=(rfl)
@[go_sem] theorem ts_39:ts 39=some KP:=(rfl)
@[go_sem] theorem ts_51:ts 51=some KQ:=(rfl)
@[go_sem] theorem ts_53:ts 53=some KR:=(rfl)
@[go_sem] theorem ts_54:ts 54=some KS:=(rfl)
@[go_sem] theorem ts_58:ts 58=some KT:=(rfl)
@[go_sem] theorem ts_61:ts 61=some KU:=(rfl)
@[go_sem] theorem ts_62:ts 62=some KV:=(rfl)
@[go_sem] theorem ts_72:ts 72=some KW:=(rfl)
@[go_sem] theorem ts_74:ts 74=some KX:=(rfl)
@[go_sem] theorem ts_77:ts 77=some KY:=(rfl)
@[go_sem] theorem ts_81:ts 81=some KZ:=(rfl)
@[go_sem] theorem ts_92:ts 92=some K1:=(rfl)
@[go_sem] theorem ts_99:ts 99=some K2:=(rfl)
@[go_sem] theorem U0:ts 107=some EM:=(rfl)
@[go_sem] theorem U3:ts 110=some EN:=(rfl)
@[go_sem] theorem U4:ts 113=some EO:=(rfl)
@[go_sem] theorem U5:ts 114=some EP:=(rfl)
@[go_sem] theorem U6:ts 116=some EQ:=(rfl)
@[go_sem] theorem U7:ts 118=some ER:=(rfl)
@[go_sem] theorem U8:ts 120=some ES:=(rfl)
@[go_sem] theorem U9:ts 121=some ET:=(rfl)
@[go_sem] theorem U_:ts 122=some EU:=(rfl)
@[go_sem] theorem Va:ts 124=some EV:=(rfl)
@[go_sem] theorem Vb:ts 132=some EW:=(rfl)
@[go_sem] theorem Vc:ts 141=some EX:=(rfl)
@[go_sem] theorem Vd:ts 145=some EY:=(rfl)
@[go_sem] theorem Ve:ts 153=some EZ:=(rfl)
@[go_sem] theorem Vf:ts 170=some ti3:=(rfl)
@[go_sem] theorem Vg:ts 177=some E0:=(rfl)
@[go_sem] theorem Vh:ts 196=some E1:=(rfl)
@[go_sem] theorem Vi:ts 225=some E2:=(rfl)
@[go_sem] theorem Vj:ts 227=some E3:=(rfl)
attribute [go_sem] ti3 ti4 ti9 KF KG KH KI KJ KK KL KM KN KO KP KQ KR KS KT KU KV KW KX KY KZ K1 K2 EM EN EO EP EQ ER ES ET EU EV EW EX EY EZ E0 E1 E2 E3
theorem mixed:Tryz.prog.follows .mixedOrders=true:=by kernel_rfl
def gf:List SV→Option Con
 | [.v (.iface t (.int .i64 e))] =>bif Nat.beq t 170 then some (.det True (.i e))else none
 |_=>none
theorem tV:FnOk Tryz.prog 64 gf:=by
 have hG:ConsOk Tryz.prog (mkG [] []):=aw (by simp) (by simp);refine aZ [.o] mixed am hG (fn:=Tryz.f64) (c:=ae Tryz.f64) kr kr kr kr fun l con h hp=>?_;unfold gf at h;split at h
 ·rename_i t e;cases ht:Nat.beq t 170 with
  |false=>rw[ht]at h;cases h
  |true=>
   rw[ht]at h;cases h;have ht':=Nat.eq_of_beq_eq_true ht;subst ht';refine⟨nbl rfl,L0,by unfold ae Tryz.f64;simp only[al,and_self],?_⟩;unfold ae Tryz.f64;simp only[go_sem,true_imp_iff,false_imp_iff,Nat.reduceBEq,Nat.reduceLeDiff,Nat.reduceAdd,Nat.reduceSub,Nat.reduceMul,true_and,and_true,implies_true,reduceCtorEq]
 ·cases h
def Oq:Value→Option SV
 | .iface t (.int .i64 e) =>bif Nat.beq t 170 then some (.i e)else none
 |_=>none
theorem Iy:MO Tryz.prog 63 Oq:=by
 obtain⟨fn,hfn,hbody,hn,hres⟩:∃ fn,Tryz.prog.funcs[63]? =some fn∧fn.body=some (ae Tryz.f63)∧fn.ntmps=7∧fn.results= #[]:=⟨Tryz.f63,by kernel_rfl,by kernel_rfl,by kernel_rfl,by kernel_rfl⟩;have hG:ConsOk Tryz.prog (mkG [(64,gf)] []):=aw (by
  intro x hx;simp only[List.mem_cons,List.not_mem_nil,or_false]at hx;rcases hx with rfl;exact tV) (by simp)
 refine⟨fun args w=>by kernel_rfl,fun p w=>?_,?_⟩
 ·refine callsDIn_of_wpSIn hfn hbody trivial fun c₀ cs hu=>?_;unfold ae Tryz.f63;refine wpSIn_seq (wpSIn_region ?_);simp[wpOpsSIn,go_sem,recoverD,hu,hn,Exit.thenS,Oper.about,Region.wanted];refine wpSIn_seq (wpSIn_region ?_);simp[wpOpsSIn,go_sem,recoverD,hu,Exit.thenS,Oper.about,Region.wanted];refine wpSIn_cond (t:=false) (by simp[Act.eval]) ?_;simp only[Bool.false_eq_true,if_false];refine wpSIn_of_wpIn rfl (wpIn_skip ?_);cases c₀;simp_all [bodyPostS,results]
 ·intro x s hx F own w h id hd b y hfw hp hob ho hpb;unfold Oq at hx;split at hx
  ·rename_i t e;cases ht:Nat.beq t 170 with
   |false=>rw[ht]at hx;cases hx
   |true=>
    rw[ht]at hx;cases hx;have ht':=Nat.eq_of_beq_eq_true ht;subst ht';refine callsDIn_of_wpSIn hfn hbody trivial fun c₀ cs hu=>?_;unfold ae Tryz.f63;refine wpSIn_seq (wpSIn_region ?_);simp[wpOpsSIn,go_sem,recoverD,hu,hn,Exit.thenS,Oper.about,Region.wanted];refine wpSIn_seq (wpSIn_region ?_);simp[wpOpsSIn,go_sem,recoverD,hu,Exit.thenS,Oper.about,Region.wanted];refine wpSIn_cond (t:=true) (by simp[Act.eval]) ?_;simp only[if_true];refine wpSIn_of_wpIn rfl ?_;have hr:StRel F { w:=w,own:=own} 7 own ⟨[(0,.ptr id 0),(1,.v (.iface 170 (.int .i64 e)))],h⟩ { tmps:= #[.pointer (some ⟨b,0,none⟩),.iface 170 (.int .i64 e),.iface 170 (.int .i64 e),.iface 170 (.int .i64 e),.bool true,undef,undef],defers:=[]} w:=by
     refine⟨rfl,Dfr.nil,hp,Fr.refl { w:=w,own:=own},fun t=>?_⟩;rw[jX];by_cases h0:0=t
     ·subst h0;rw[if_pos rfl];exact .ptr ho hpb
     ·rw[if_neg h0,jX];by_cases h1:1=t
      ·subst h1;rw[if_pos rfl];exact .v _
      ·rw[if_neg h1];exact .any _
    refine wpIn_mono (DG (ts:=ts) (L:=L0) (Q:=fun st=>st.h=bw h id (.cells [.i e])) mixed am hG kr ?_ hr) ?_
    ·simp only[go_sem,hob,rS (h:=h) (i:=id) (o:=.cells [.v (.int .i64 e)]) rfl hfw,gf,Nat.reduceBEq,Nat.reduceLeDiff,Nat.reduceAdd,true_and,and_true,true_imp_iff]
    ·rintro ex a' w' ⟨rfl,own1,st1,hst1,hh⟩;have hd0:a'.defers=[]:=by
      obtain⟨ms,Ds,q0,q1,q2,q3⟩:=hst1.defers;cases Ds with
      |nil=>rw[q0];simp at q1;simp[q1]
      |cons D r=>
       obtain⟨m1,m2,_⟩:=q3 D (by simp);have:=hp.foreign D m2;simp only at m1;omega
     refine⟨hd0,.panicking [{ v:=.iface 170 (.int .i64 e),recovered:=true}],?_,_,by simp[results,hres];rfl,⟨_,rfl⟩,rfl,own1,hh▸hst1.hp,hst1.fr⟩;cases c₀;simp_all
  ·cases hx
attribute [go_sem] gf
abbrev SV.u (n:Nat):SV:=.v (.int .u64 (n:Int))
def yb (ps:List (Nat×(List SV→Option Con)))(os:List (Nat×(List SV→List Ob→Option HCon)))(Y:List SV→Res→Option YCon):Cons:=⟨mkP ps,mkO os,Y⟩
@[go_sem] theorem Vk {ps:List (Nat×(List SV→Option Con))}{os:List (Nat×(List SV→List Ob→Option HCon))}{Y:List SV→Res→Option YCon}:(yb ps os Y).p=mkP ps:=(rfl)
@[go_sem] theorem Vl {ps:List (Nat×(List SV→Option Con))}{os:List (Nat×(List SV→List Ob→Option HCon))}{Y:List SV→Res→Option YCon}:(yb ps os Y).o=mkO os:=(rfl)
@[go_sem] theorem Vm {ps:List (Nat×(List SV→Option Con))}{os:List (Nat×(List SV→List Ob→Option HCon))}{Y:List SV→Res→Option YCon}:(yb ps os Y).y=Y:=(rfl)
theorem vE {P:Program}{ps:List (Nat×(List SV→Option Con))}{os:List (Nat×(List SV→List Ob→Option HCon))}{Y:List SV→Res→Option YCon}(h1:∀ x∈ps,FnOk P x.1 x.2)(h2:∀ x∈os,FnOkO P x.1 x.2)(h3:YOk P Y):ConsOk P (yb ps os Y):=⟨DB ps h1,DC os h2,h3⟩
def C90:List SV→List Ob→Option HCon:=fun l h=>noH h ((pU fun n=>pU fun d=>pE { α:=Unit,pre:=True,post:=fun _=>True,res:=fun _=>.ret (.fn 186 [] [.ptr 0 0,.ptr 1 0]) [.cells [.v (.int .u64 n)],.cells [.v (.int .u64 d)]]}) l)
theorem Ot:FnOkO Tryz.prog 185 C90:=by
 have hG:ConsOk Tryz.prog (mkG [] []):=aw (by simp) (by simp);refine nL mixed am hG (fn:=Tryz.f185) (c:=ae Tryz.f185) kr kr kr kr fun l o con h hp=>?_;unfold C90 at h;obtain⟨rfl,h⟩:=EL h;obtain⟨n,l0,rfl,h0⟩:=Ae h;obtain⟨d,l1,rfl,h1⟩:=Ae h0;obtain⟨rfl,rfl⟩:=rR h1;refine⟨nbl rfl,L0,by unfold ae Tryz.f185;simp only[al,and_self],?_⟩;unfold ae Tryz.f185;simp only[go_sem,true_imp_iff,decide_eq_true_eq,Nat.reduceBEq,Nat.reduceLeDiff,Nat.reduceAdd,Nat.reduceSub,Nat.reduceMul,true_and,and_true,implies_true];refine⟨(),_,_,[0,1],rfl,?_⟩;simp only[go_sem,Nat.reduceBEq,Nat.reduceLeDiff,Nat.reduceAdd,true_and,and_true];exact⟨rfl,rfl⟩
def tW:Nat→Nat→Nat→List Nat
 |0,n,d=>if n=0 then []else [n,d]
 |f+1,n,d=>if n=0 then []else n::(if n % max d 1=0 then [d]else tW f d (n % max d 1))
def la (f n d:Nat):List (List SV):=(tW f n d).map fun x=>[SV.u x]
theorem Iz (f d:Nat):la f 0 d=[]:=by cases f <;>rfl
theorem IA {f n d:Nat}(hn:n≠0)(hf:d≤f):∃ T,la f n d=[SV.u n]::T∧(n % max d 1=0→T=[[SV.u d]])∧(n % max d 1≠0→∃ f',T=la f' d (n % max d 1)∧n % max d 1≤f'∧n % max d 1<d):=by
 cases f with
 |zero=>
  have hd:d=0:=by omega
  subst hd;refine⟨[[SV.u 0]],by simp[la,tW,hn],fun _=>rfl,fun h=>?_⟩;exfalso;apply h;simp[Nat.mod_one]
 |succ f=>
  by_cases h0:n % max d 1=0
  ·exact⟨[[SV.u d]],by simp[la,tW,hn,h0],fun _=>rfl,fun h=>absurd h0 h⟩
  ·refine⟨la f d (n % max d 1),by simp[la,tW,hn,h0],fun h=>absurd h h0,fun _=>⟨f,rfl,?_⟩⟩;have hlt:n % max d 1<max d 1:=Nat.mod_lt _ (by omega);have hd:1≤d:=by
    rcases Nat.eq_zero_or_pos d with h|h
    ·subst h;exfalso;apply h0;simp[Nat.mod_one]
    ·exact h
   omega
theorem IB (n d:Nat):((n:Int).tmod (if(d:Int) <1 then 1 else(d:Int)))=((n % max d 1:Nat):Int):=by
 have e:(if(d:Int) <1 then(1:Int)else(d:Int))=((max d 1:Nat):Int):=by split <;>omega
 rw[e,Int.tmod_eq_emod_of_nonneg (by omega)];rfl
open Classical in
theorem Ou (n0 d0:Nat):Ag Tryz.prog 186 (fun y=>[y,.ptr 1 0,.ptr 2 0]) [.cells [SV.u n0],.cells [SV.u d0]] (la d0 n0 d0):=by
 refine Ib (fun r hr hy=>?_) (fun args w=>by kernel_rfl);have hG:ConsOk Tryz.prog (yb [] [] (itY (la d0 n0 d0) r)):=vE (by simp) (by simp) hy;refine⟨fun l h=>if l=[.os 0,.ptr 1 0,.ptr 2 0]∧h=[.ab (r 1),.cells [SV.u n0],.cells [SV.u d0]]then some { α:=Nat,pre:=True,post:=fun j=>j=0∨j=(la d0 n0 d0).length+1,res:=fun j=>.ret (.tup []) [.ab (r j),.dead,.dead]}else none,
  ?_,_,if_pos ⟨rfl,rfl⟩,trivial,fun j hj=>⟨_,j,_,rfl,hj⟩⟩
 refine nL mixed am hG (fn:=Tryz.f186) (c:=ae Tryz.f186) kr kr kr kr fun l o con h hp=>?_;split at h
 ·rename_i hlo;obtain⟨rfl,rfl⟩:=hlo;cases h;refine⟨nbl rfl,fun id st=>bif Nat.beq id 0 then some { α:=Nat×Bool,pre:=lk 0 st.t=.os 0∧lk 1 st.t=.ptr 1 0∧lk 2 st.t=.ptr 2 0∧st.h=[.ab (r 1),.cells [SV.u n0],.cells [SV.u d0]],post:=fun j=>j.1=0∨j.1=(la d0 n0 d0).length+1,ex:=fun j=>bif j.2 then .ret else .normal,out:=fun j=>⟨[],[.ab (r j.1),.dead,.dead]⟩:LCon}else none,?_,?_⟩
  ·unfold ae Tryz.f186;simp only[al,true_and,and_true];refine wQ mixed am hG kr fun st lc hC hp=>?_;simp only[go_sem,Nat.reduceBEq,Option.some.injEq]at hC;subst hC;obtain⟨t,h⟩:=st;dsimp only at hp;obtain⟨h0,h1,h2,rfl⟩:=hp;refine⟨Nat×Nat×Nat×Nat,fun x=>⟨[(0,.os 0),(1,.ptr 1 0),(2,.ptr 2 0)],[.ab (r (x.1+1)),.cells [SV.u x.2.2.1],.cells [SV.u x.2.2.2]]⟩,fun x=>x.2.2.2≤x.2.1∧(la d0 n0 d0).drop x.1=la x.2.1 x.2.2.1 x.2.2.2∧x.1≤(la d0 n0 d0).length,fun x=>x.2.2.2,(0,d0,n0,d0),[0,1,2],⟨Nat.le_refl _,rfl,Nat.zero_le _⟩,Nat.le_refl _,?_,?_⟩
   ·simp only[go_sem,h0,h1,h2,Nat.reduceBEq,Nat.reduceLeDiff,Nat.reduceAdd,true_and,and_true];decide
   ·rintro⟨k,f,n,d⟩ ⟨hf,hdrop,hk⟩;simp only at hf hdrop hk;refine⟨L0,_,by simp only[al,and_self],fun _ _ q=>q,?_⟩;simp only[go_sem,DD hr,true_imp_iff,decide_eq_true_eq,IB,Bool.false_eq_true,false_imp_iff,Nat.reduceBEq,Nat.reduceLeDiff,Nat.reduceAdd,Nat.reduceSub,Nat.reduceMul,true_and,and_true,implies_true];have hget:∀ (l:List (List SV)) (j:Nat),l=(la d0 n0 d0).drop k→(la d0 n0 d0)[k+j]? =l[j]?:=fun l j e=>by rw[e,List.getElem?_drop]
    have hlen:(la f n d).length=(la d0 n0 d0).length - k:=by rw[←hdrop,List.length_drop]
    refine⟨fun hn=>?_,fun hn=>?_⟩
    ·have hn':n≠0:=by simpa using hn
     obtain⟨T,e1,e2,e3⟩:=IA hn' hf;have hT:(la d0 n0 d0).drop (k+1)=T:=by rw[←List.drop_drop,hdrop,e1];rfl
     have h0':=hget _ 0 hdrop.symm;rw[e1]at h0';have hk1:k+1≤(la d0 n0 d0).length:=by
      have:=(List.getElem?_eq_some_iff.1 h0').1;omega
     refine⟨h0',⟨fun _=>⟨by split <;>omega,rfl,fun h2=>?_,fun h2=>?_⟩,fun h2=>?_⟩,?_⟩
     ·have h3:n % max d 1=0:=by
       have:=eq_of_beq h2;generalize n % max d 1=q at this ⊢;omega
      have hT2:=e2 h3;have hl2:(la d0 n0 d0).length=k+2:=by
       have:=congrArg List.length hT;rw[hT2,List.length_drop]at this;simp at this;omega
      refine⟨?_,⟨(k+1+2,true),[0,1,2],.inr (by rw[hl2]),rfl,⟨rfl,rfl,rfl⟩,by simp[x6,zH,wb,unp,ag,cd,od,oK]⟩,⟨(0,true),[0,1,2],.inl rfl,rfl,⟨rfl,rfl,rfl⟩,by simp[x6,zH,wb,unp,ag,cd,od,oK]⟩⟩;have:(la d0 n0 d0)[k+1]? =T[0]?:=by rw[←hT,List.getElem?_drop]
      rw[this,hT2];rfl
     ·have h3:n % max d 1≠0:=fun e=>by rw[e]at h2;simp at h2
      obtain⟨f',m1,m2,m3⟩:=e3 h3;exact⟨(k+1,f',d,n % max d 1),[0,1,2],⟨m2,by rw[hT,m1],hk1⟩,m3,⟨rfl,rfl,rfl⟩,by simp[x6,zH,wb,unp,ag,cd,od,oK,nth,iq,ren]⟩
     ·exact absurd hn (by rw[h2];simp)
     ·exact⟨(0,false),[0,1,2],.inl rfl,rfl,⟨rfl,rfl,rfl⟩,by simp[x6,zH,wb,unp,ag,cd,od,oK]⟩
    ·have hn':n=0:=by simpa using hn
     subst hn';rw[Iz]at hlen;simp at hlen;exact⟨by simpa using hn,(k+1,false),[0,1,2],.inr (by show k+1=_;omega),rfl,⟨rfl,rfl,rfl⟩,by simp[x6,zH,wb,unp,ag,cd,od,oK]⟩
  ·unfold ae Tryz.f186;simp only[go_sem,true_imp_iff,decide_eq_true_eq,Nat.reduceBEq,Nat.reduceLeDiff,Nat.reduceAdd,Nat.reduceSub,Nat.reduceMul,true_and,and_true,implies_true];rintro⟨j,b⟩ hj;cases b
   ·simp only[go_sem];exact⟨j,_,_,[0,1,2],hj,rfl,Nat.le_refl 3,by simp only[go_sem,Nat.reduceBEq,Nat.reduceLeDiff,Nat.reduceAdd,true_and,and_true];decide⟩
   ·simp only[go_sem];exact⟨j,_,_,[0,1,2],hj,rfl,Nat.le_refl 3,by simp only[go_sem,Nat.reduceBEq,Nat.reduceLeDiff,Nat.reduceAdd,true_and,and_true];decide⟩
 ·cases h
def qF (n d:Nat):Nat:=if d=0 then n else(tW d n d).getLastD d
def C83:List SV→Option Con:=pU fun n=>pU fun d=>pE (.det (0≤n∧0≤d) (SV.u (qF n.toNat d.toNat)))
theorem IC:FnOk Tryz.prog 180 C83:=by
 have hG:ConsOk Tryz.prog (mkG [] [(185,C90)]):=aw (by simp) (by
  intro x hx;simp only[List.mem_cons,List.not_mem_nil,or_false]at hx;rcases hx with rfl;exact Ot)
 refine HY false mixed am hG (fn:=Tryz.f180) (c:=ae Tryz.f180) kr kr kr kr fun l con h hp=>?_;unfold C83 at h;obtain⟨n',l0,rfl,h0⟩:=Ae h;obtain⟨d',l1,rfl,h1⟩:=Ae h0;obtain⟨rfl,rfl⟩:=rR h1;clear h h0 h1;obtain⟨hn,hd⟩:=hp;obtain⟨n,rfl⟩:=Int.eq_ofNat_of_zero_le hn;obtain⟨d,rfl⟩:=Int.eq_ofNat_of_zero_le hd;refine⟨nbl rfl,fun id st=>bif Nat.beq id 0 then some { α:=Unit,pre:=st.h=[.cells [SV.u d],.cells [SV.u n],.cells [SV.u d]]∧lk 12 st.t=.fn 186 [] [.ptr 1 0,.ptr 2 0]∧lk 4 st.t=.ptr 0 0,post:=fun _=>True,ex:=fun _=>.normal,out:=fun _=>⟨[(4,.ptr 0 0)],[.cells [SV.u ((tW d n d).getLastD d)],.dead,.dead]⟩:LCon}else none,?_,?_⟩
 ·unfold ae Tryz.f180;simp only[al,true_and,and_true];refine BL mixed am hG (by decide) (by decide) kr kr fun st lc hC hp=>?_;simp only[go_sem,Nat.reduceBEq,Option.some.injEq]at hC;subst hC;obtain⟨t,h⟩:=st;dsimp only at hp;obtain⟨rfl,h12,h4⟩:=hp;refine⟨186,[.ptr 1 0,.ptr 2 0],la d n d,Nat,[(4,.ptr 0 0)],fun v=>[.cells [SV.u v],.dead,.dead],fun k v=>v=((tW d n d).take k).getLastD d,fun _ _=>False,d,[0,1,2],h12,rfl,Nat.le_refl _,?_,Ou n d,?_,?_,fun _ h=>h.elim,fun _ _ h=>h.elim⟩
  ·show Sub [0,1,2] 3 ⟨t,[.cells [SV.u d],.dead,.dead]⟩ ⟨[(4,.ptr 0 0)],[.cells [SV.u d],.dead,.dead]⟩;simp only[go_sem,h4,Nat.reduceBEq,Nat.reduceLeDiff,Nat.reduceAdd,true_and,and_true];decide
  ·intro k y args hk hI;unfold la at hk;rw[List.getElem?_map,Option.map_eq_some_iff]at hk;obtain⟨x,hx,rfl⟩:=hk;refine⟨rfl,L0,_,fun l=>by simp only[al],fun l=>by simp only[al],fun _ _ q=>q,?_⟩;show exec ts _ L0 _ ⟨[(13,SV.u x),(4,SV.ptr 0 0)],[.cells [SV.u y],.dead,.dead]⟩ _;simp only[go_sem,true_imp_iff,Nat.reduceBEq,Nat.reduceLeDiff,Nat.reduceAdd,true_and,and_true];refine⟨x,[0,1,2],?_,Nat.le_refl 3,?_⟩
   ·have hlt:=(List.getElem?_eq_some_iff.1 hx).1;have hx2:=(List.getElem?_eq_some_iff.1 hx).2;show x=((tW d n d).take (k+1)).getLastD d;rw[List.take_succ_eq_append_getElem hlt,hx2];simp[List.getLastD_concat]
   ·simp only[go_sem,Nat.reduceBEq,Nat.reduceLeDiff,Nat.reduceAdd,true_and,and_true];decide
  ·intro y hI;refine⟨(),[0,1,2],trivial,rfl,Nat.le_refl _,?_⟩;have hy:y=(tW d n d).getLastD d:=by rw[hI,List.take_of_length_le (by simp[la])]
   subst hy;show Sub [0,1,2] 3 ⟨[(4,.ptr 0 0)],[.cells [SV.u _],.dead,.dead]⟩ ⟨[(4,.ptr 0 0)],[.cells [SV.u _],.dead,.dead]⟩;simp only[go_sem,Nat.reduceBEq,Nat.reduceLeDiff,Nat.reduceAdd,true_and,and_true];decide
 ·unfold ae Tryz.f180;simp only[go_sem,C90,true_imp_iff,decide_eq_true_eq,Bool.false_eq_true,false_imp_iff,Nat.reduceBEq,Nat.reduceLeDiff,Nat.reduceAdd,Nat.reduceSub,Nat.reduceMul,true_and,and_true,implies_true];refine⟨fun h=>?_,fun h _ _=>?_⟩
  ·have h':d=0:=by simpa using h
   simp[qF,h']
  ·have h':d≠0:=by simpa using h
   simp[qF,h']
attribute [go_sem] C83
end Go.Sx
end
section
namespace Go.Sx
open Go.RowKit
inductive NilS:St→St→Prop where
 |refl (st:St):NilS st st
 |cell {st:St} {t:List (Nat×SV)} {h:List Ob} {i j:Nat} {l:List SV} (o:Ob):NilS st ⟨t,h⟩→ag h i=.cells l→l[j]? =some (.v (.slice none 0 0))→((∃ k,o=.row k [])∨∃ k,o=.grid k [])→NilS st ⟨t,bw h i (.cells (l.set j (.os h.length)))++[o]⟩
 |slot {st:St} {t:List (Nat×SV)} {h:List Ob} {i:Nat} (o:Ob):NilS st ⟨t,h⟩→lk i t=.v (.slice none 0 0)→((∃ k,o=.row k [])∨∃ k,o=.grid k [])→NilS st ⟨(i,.os h.length)::t,h++[o]⟩
 |slotE {st:St} {t:List (Nat×SV)} {h:List Ob} {i:Nat} (k:Tag):NilS st ⟨t,h⟩→lk i t=.e0→NilS st ⟨(i,.os h.length)::t,h++[.row k []]⟩
section
variable {P:Program}{F:Nat→Prop}{w0:Bs}{N:Nat}
theorem y5 (h:List Ob)(o:Ob):ag (h++[o]) h.length=o:=by rw[kE,if_neg (by omega)];simp[ag]
theorem E4 {own:Own}{h:List Ob}{a:Act}{w:World}{t:List (Nat×SV)}(hr:StRel F w0 N own ⟨t,h⟩ a w)(o:Ob)(ho:(∃ k,o=.row k [])∨∃ k,o=.grid k []):
  ∃ own',StRel F w0 N own' ⟨t,h++[o]⟩ a w∧(∀ id hd,own id=some hd→own' id=some hd)∧own' h.length=some { v:=.slice none 0 0}:=by
 let own':Own:=fun id=>if id=h.length then some { v:=.slice none 0 0}else own id
 have hsub:∀ id hd,own id=some hd→own' id=some hd:=fun id hd e=>by
  have:id≠h.length:=by have:=hr.hp.dom id hd e;simp only at this;omega
  simp only[own',if_neg this];exact e
 have hinv:∀ id hd b,own' id=some hd→b∈hd.bs→own id=some hd:=fun id hd b e hb=>by
  by_cases hi:id=h.length
  ·simp only[own',if_pos hi,Option.some.injEq]at e;subst e;cases hb
  ·simpa only[own',if_neg hi]using e
 have hc:Carries F own w F own' w:=⟨fun id hd e=>⟨hd,hsub id hd e,.refl _⟩,fun b _ hn=>⟨by
  rintro (hf| ⟨id,hd,e,hb⟩)
  ·exact hn (.inl hf)
  ·exact hn (.inr ⟨id,hd,hinv id hd b e hb,hb⟩),rfl⟩⟩
 refine⟨own',⟨hr.size,hr.defers,⟨fun id hd e=>?_,hr.hp.foreign,fun id hd b e hb=>hr.hp.apart id hd b (hinv id hd b e hb) hb,fun i j hi hj b e1 e2 b1 b2=>hr.hp.inj i j hi hj b (hinv i hi b e1 b1) (hinv j hj b e2 b2) b1 b2,fun id hd b e hb=>hr.hp.lt id hd b (hinv id hd b e hb) hb,fun id hd=>?_⟩,
  ⟨fun id hd e=>?_,fun id hd b e hb=>hr.fr.base id hd b (hinv id hd b e hb) hb,hr.fr.os,hr.fr.tape,hr.fr.output,hr.fr.size,hr.fr.block⟩,fun t=>(hr.slots t).carry hc⟩,hsub,by simp[own']⟩
 ·simp only[List.length_append,List.length_cons,List.length_nil];by_cases hi:id=h.length
  ·omega
  ·simp only[own',if_neg hi]at e;have:=hr.hp.dom id hd e;simp only at this;omega
 ·simp only at hd ⊢;by_cases hi:id<h.length
  ·rw[kE,if_pos hi]at hd ⊢;obtain⟨hd',e1,e2⟩:=hr.hp.obs id hd;exact⟨hd',hsub id hd' e1,e2.carry hc (Nat.le_refl _) fun _ _=>rfl⟩
  ·by_cases hi2:id=h.length
   ·subst hi2;rw[y5];refine⟨_,by simp[own'];rfl,?_⟩;rcases ho with⟨k,rfl⟩ | ⟨k,rfl⟩
    ·exact .inl ⟨none,rfl,rfl,rfl⟩
    ·exact .inl ⟨rfl,rfl,rfl,rfl⟩
   ·rw[jq (by simp;omega)]at hd;cases hd
 ·obtain⟨hd',e1,e2⟩:=hr.fr.ids id hd e;exact⟨hd',hsub id hd' e1,e2⟩
theorem ID {own:Own}{h:List Ob}{a:Act}{w:World}{t:List (Nat×SV)}(hr:StRel F w0 N own ⟨t,h⟩ a w)(k:Tag)(ad:Option Addr):
  ∃ own',StRel F w0 N own' ⟨t,h++[.row k []]⟩ a w∧(∀ id hd,own id=some hd→own' id=some hd)∧own' h.length=some { v:=.slice ad 0 0}:=by
 let own':Own:=fun id=>if id=h.length then some { v:=.slice ad 0 0}else own id
 have hsub:∀ id hd,own id=some hd→own' id=some hd:=fun id hd e=>by
  have:id≠h.length:=by have:=hr.hp.dom id hd e;simp only at this;omega
  simp only[own',if_neg this];exact e
 have hinv:∀ id hd b,own' id=some hd→b∈hd.bs→own id=some hd:=fun id hd b e hb=>by
  by_cases hi:id=h.length
  ·simp only[own',if_pos hi,Option.some.injEq]at e;subst e;cases hb
  ·simpa only[own',if_neg hi]using e
 have hc:Carries F own w F own' w:=⟨fun id hd e=>⟨hd,hsub id hd e,.refl _⟩,fun b _ hn=>⟨by
  rintro (hf| ⟨id,hd,e,hb⟩)
  ·exact hn (.inl hf)
  ·exact hn (.inr ⟨id,hd,hinv id hd b e hb,hb⟩),rfl⟩⟩
 refine⟨own',⟨hr.size,hr.defers,⟨fun id hd e=>?_,hr.hp.foreign,fun id hd b e hb=>hr.hp.apart id hd b (hinv id hd b e hb) hb,fun i j hi hj b e1 e2 b1 b2=>hr.hp.inj i j hi hj b (hinv i hi b e1 b1) (hinv j hj b e2 b2) b1 b2,fun id hd b e hb=>hr.hp.lt id hd b (hinv id hd b e hb) hb,fun id hd=>?_⟩,
  ⟨fun id hd e=>?_,fun id hd b e hb=>hr.fr.base id hd b (hinv id hd b e hb) hb,hr.fr.os,hr.fr.tape,hr.fr.output,hr.fr.size,hr.fr.block⟩,fun t=>(hr.slots t).carry hc⟩,hsub,by simp[own']⟩
 ·simp only[List.length_append,List.length_cons,List.length_nil];by_cases hi:id=h.length
  ·omega
  ·simp only[own',if_neg hi]at e;have:=hr.hp.dom id hd e;simp only at this;omega
 ·simp only at hd ⊢;by_cases hi:id<h.length
  ·rw[kE,if_pos hi]at hd ⊢;obtain⟨hd',e1,e2⟩:=hr.hp.obs id hd;exact⟨hd',hsub id hd' e1,e2.carry hc (Nat.le_refl _) fun _ _=>rfl⟩
  ·by_cases hi2:id=h.length
   ·subst hi2;rw[y5];refine⟨_,by simp[own'];rfl,?_⟩;exact .inl ⟨ad,rfl,rfl,rfl⟩
   ·rw[jq (by simp;omega)]at hd;cases hd
 ·obtain⟨hd',e1,e2⟩:=hr.fr.ids id hd e;exact⟨hd',hsub id hd' e1,e2⟩
theorem NilS.rel {st st':St}(hn:NilS st st'){own:Own}{a:Act}{w:World}(hr:StRel F w0 N own st a w):∃ own',StRel F w0 N own' st' a w:=by
 induction hn with
 |refl=>exact⟨own,hr⟩
 | @slot t h i o _ hl ho ih=>
  obtain⟨own1,h1⟩:=ih;obtain⟨own2,h2,h3,h4⟩:=E4 h1 o ho;refine⟨own2,h2.size,h2.defers,h2.hp,h2.fr,fun u=>?_⟩;rw[jX];split
  ·rename_i e;subst e;have:=h1.slots i;rw[hl]at this;rw[bP this];exact .os (hd:= { v:=.slice none 0 0}) h4 rfl
  ·exact h2.slots u
 | @slotE t h i k _ hl ih=>
  obtain⟨own1,h1⟩:=ih;have hs:=h1.slots i;rw[hl]at hs;generalize hv:a.tmps.getD i undef=v at hs;cases hs with
  | @e0 ad=>
   obtain⟨own2,h2,h3,h4⟩:=ID h1 k ad;refine⟨own2,h2.size,h2.defers,h2.hp,h2.fr,fun u=>?_⟩;rw[jX];split
   ·rename_i e;subst e;rw[hv];exact .os (hd:= { v:=.slice ad 0 0}) h4 rfl
   ·exact h2.slots u
 | @cell t h i j l o _ hc hl ho ih=>
  obtain⟨own1,h1⟩:=ih;obtain⟨own2,h2,h3,h4⟩:=E4 h1 o ho;have hlt:i<h.length:=by
   rcases Nat.lt_or_ge i h.length with h'|h'
   ·exact h'
   ·rw[jq h']at hc;cases hc
  have hlen:(bw h i (.cells (l.set j (.os h.length)))).length=h.length:=by rw[bG,if_pos hlt]
  refine⟨own2,h2.size,h2.defers,⟨fun id hd e=>?_,h2.hp.foreign,h2.hp.apart,h2.hp.inj,h2.hp.lt,fun id hd=>?_⟩,h2.fr,h2.slots⟩
  ·have:=h2.hp.dom id hd e;simp only[List.length_append]at this ⊢;rw[hlen];exact this
  ·simp only at hd ⊢;have hob:=h2.hp.obs id;simp only at hob;by_cases hi:id<h.length
   ·rw[kE,if_pos (by rw[hlen];exact hi)]at hd ⊢;rw[kE,if_pos hi]at hob;rw[ca]at hd ⊢;by_cases hii:i=id
    ·subst hii;rw[if_pos rfl]at hd ⊢;rw[hc]at hob;obtain⟨hd',e1,b,cs,ty,m1,m2,m3,m4,m5⟩:=hob rfl;refine⟨hd',e1,b,cs,ty,m1,m2,m3,by simpa using m4,fun j' s hs=>?_⟩;rw[List.getElem?_set]at hs;by_cases hj:j=j'
     ·subst hj;rw[if_pos rfl]at hs;split at hs
      ·cases hs;have:=m5 j _ hl;rw[bP this];exact .os (hd:= { v:=.slice none 0 0}) h4 rfl
      ·cases hs
     ·rw[if_neg hj]at hs;exact m5 j' s hs
    ·rw[if_neg hii]at hd ⊢;exact hob hd
   ·rw[kE,if_neg (by rw[hlen];exact hi),hlen]at hd ⊢;rw[kE,if_neg hi]at hob;exact hob hd
end
section
variable {P:Program}{F:Nat→Prop}{w0:Bs}{ro:Option Nat}{nd:Nat}{ts:Tis}{G:Cons}{L:oJ}{N:Nat}
theorem sO {ts:Tis}{G:Cons}{ro:Option Nat}{N:Nat}(hm:P.follows .mixedOrders=true)(hts:ts.ok P)(hG:ConsOk P G){id:Nat}{c:Code}(hc:cb N c=true){C:St→Option LCon}
  (h:∀ st lc,C st=some lc→lc.pre→∃ (σ:Type) (D:σ→St) (I:σ→Prop) (m:σ→Nat) (x0:σ) (stN:St) (js:List Nat),I x0∧NilS st stN∧st.h.length≤(D x0).h.length∧Sub js st.h.length stN (D x0)∧
   ∀ x,I x→∃ L Qx,al P ro N L c∧(∀ e st',Qx e st'→og D I m st.h.length x id (fun e st'=>∃ r js,lc.post r∧lc.ex r=e∧st.h.length≤(lc.out r).h.length∧Sub js st.h.length st' (lc.out r)) e st')∧exec ts G L c (D x) Qx):iv P ro N id (.loop c) C:=by
 intro nd F w0 st lc hC hpre own a w hr;obtain⟨σ,D,I,m,x0,stN,js,h1,hN,h2,h3,h4⟩:=h st lc hC hpre;obtain⟨ownN,hrN⟩:=hN.rel hr;refine wpIn_mono (yW hm hts hG hc D I m st.h.length hr.base_lt _ h4 x0 h1 _ a w (hrN.sub h3 hr.base_lt h2)) ?_;intro e a' w' hq;have key:∀ ex F1 own' st',StRel F1 w0 N own' st' a' w'→(∃ r js,lc.post r∧lc.ex r=ex∧st.h.length≤(lc.out r).h.length∧Sub js st.h.length st' (lc.out r))→∃ own2 st2,StRel F1 w0 N own2 st2 a' w'∧∃ r,lc.post r∧ex=lc.ex r∧st2=lc.out r:=by
  rintro ex F1 own' st' hst ⟨r,js,q1,q2,q3,q4⟩;exact⟨_,_,hst.sub q4 hr.base_lt q3,r,q1,q2.symm,rfl⟩
 cases e with
 |normal=>obtain⟨F1,own',st',h0,k1,k2⟩:=hq;obtain⟨own2,st2,q1,q2⟩:=key _ F1 own' st' k1 k2;exact⟨F1,own2,st2,h0,q1,q2⟩
 |exit j=>obtain⟨F1,own',st',h0,k1,k2⟩:=hq;obtain⟨own2,st2,q1,q2⟩:=key _ F1 own' st' k1 k2;exact⟨F1,own2,st2,h0,q1,q2⟩
 |ret=>obtain⟨F1,own',st',h0,k1,k2⟩:=hq;obtain⟨own2,st2,q1,q2⟩:=key _ F1 own' st' k1 k2;exact⟨F1,own2,st2,h0,q1,q2⟩
 |panic ch=>
  obtain⟨x,F1,own',st',h0,k1,k2,k3⟩:=hq;obtain⟨own2,st2,q1,q2⟩:=key _ F1 own' st' k1 k2;exact⟨x,F1,own2,st2,h0,q1,q2,k3⟩
 |_=>exact hq.elim
end
section
variable {P:Program}{ρ σ:Type}
def fV (st2:St)(n0:Nat)(st:St):Prop:= ∃ js,n0≤st2.h.length∧Sub js n0 st st2
theorem Ai {st2 st:St}{n0:Nat}(js:List Nat)(h1:n0≤st2.h.length)(h2:Sub js n0 st st2):fV st2 n0 st:=⟨js,h1,h2⟩
def nM (D:Nat→σ→St)(n0 k:Nat)(st:St):ρ⊕σ→Prop
 | .inl _=>False
 | .inr s'=>fV (D (k+1) s') n0 st
def jv (exE:ρ→Ex)(outE:ρ→St)(n0:Nat)(e:Ex)(st:St):ρ⊕σ→Prop
 | .inl x=>exE x=e∧fV (outE x) n0 st
 | .inr _=>False
def cE (step:Nat→σ→ρ⊕σ)(n:Nat)(exE:ρ→Ex)(outE:ρ→St)(outN:σ→St)(D:Nat→σ→St)(n0 id k:Nat)(s:σ):Ex→St→Prop
 | .normal,st=>k<n∧nM D n0 k st (step k s)
 | .exit j,st=>bif Nat.beq j id then(n≤k→fV (outN s) n0 st)∧(k<n→jv exE outE n0 .normal st (step k s))else k<n∧jv exE outE n0 (.exit j) st (step k s)
 | .ret,st=>k<n∧jv exE outE n0 .ret st (step k s)
 | .pan x,st=>k<n∧jv exE outE n0 (.pan x) st (step k s)
variable {step:Nat→σ→ρ⊕σ}{n n0 id k j:Nat}{exE:ρ→Ex}{outE:ρ→St}{outN:σ→St}{D:Nat→σ→St}{s s':σ}{st:St}{x:Value}{e:Ex}{y:ρ}
@[go_sem] theorem QM:nM (ρ:=ρ) D n0 k st (.inr s')=fV (D (k+1) s') n0 st:=(rfl)
@[go_sem] theorem SB:jv (σ:=σ) exE outE n0 e st (.inl y)=(exE y=e∧fV (outE y) n0 st):=(rfl)
@[go_sem] theorem QN:cE step n exE outE outN D n0 id k s .normal st=(k<n∧nM D n0 k st (step k s)):=(rfl)
@[go_sem] theorem Uq:cE step n exE outE outN D n0 id k s (.exit j) st=bif Nat.beq j id then(n≤k→fV (outN s) n0 st)∧(k<n→jv exE outE n0 .normal st (step k s))else k<n∧jv exE outE n0 (.exit j) st (step k s):=(rfl)
@[go_sem] theorem Vn:cE step n exE outE outN D n0 id k s .ret st=(k<n∧jv exE outE n0 .ret st (step k s)):=(rfl)
@[go_sem] theorem Vo:cE step n exE outE outN D n0 id k s (.pan x) st=(k<n∧jv exE outE n0 (.pan x) st (step k s)):=(rfl)
@[congr] theorem MQ {r r':ρ⊕σ}(h:r=r'):nM D n0 k st r=nM D n0 k st r':=by rw[h]
end
def eG (p:Prop)(S:SV)(H:List Ob):HCon:= { α:=Unit,pre:=p,post:=fun _=>True,res:=fun _=>.ret S H}
def DI (n0:Nat)(S:SV)(H:List Ob)(h:List Ob):Option SV→Prop
 |some s=>fV ⟨[(0,S)],H⟩ n0 ⟨[(0,s)],h⟩
 |none=>False
def IE (n0:Nat)(rs:List ResultVar)(ts:Tis)(S:SV)(H:List Ob):Ex→St→Prop
 | .exit _,_=>False
 | .normal,st=>DI n0 S H st.h (lF (jU ts st rs))
 | .ret,st=>DI n0 S H st.h (lF (jU ts st rs))
 | .pan _,_=>False
section
variable {P:Program}{ts:Tis}{G:Cons}{n0:Nat}{S s:SV}{H h:List Ob}{rs:List ResultVar}{st:St}{x:Value}{j:Nat}
@[go_sem] theorem QO:DI n0 S H h (some s)=fV ⟨[(0,S)],H⟩ n0 ⟨[(0,s)],h⟩:=(rfl)
@[go_sem] theorem Lq:IE n0 rs ts S H .normal st=DI n0 S H st.h (lF (jU ts st rs)):=(rfl)
@[go_sem] theorem QP:IE n0 rs ts S H .ret st=DI n0 S H st.h (lF (jU ts st rs)):=(rfl)
@[go_sem high] theorem Ov {p:Prop}{ids:List Nat}{d:Option Nat}{K:St→Prop}{Z:Value→St→Prop}:sn ids d st K Z (some (eG p S H))=(p∧CQ ids d st K Z (.ret S H)):=by
 show(p∧∀ r:Unit,True→CQ ids d st K Z (.ret S H))=_;simp
def hCR (t:Tag)(k:List t.T→Option HCon):List Ob→Option HCon
 | [.cells [.os 1],.row k' l] =>if h:k'=t then k (h▸l)else none
 |_=>none
open Classical in
noncomputable def pQ {α:Type 1}(X:SV)(k:List SV→Option α):List SV→Option α
 |s::r=>if s=X then k r else none
 | [] =>none
@[go_sem] theorem pQ_mk {α:Type 1}{X:SV}{k:List SV→Option α}{r:List SV}:pQ X k (X::r)=k r:=by simp[pQ]
theorem wW {α:Type 1}{X:SV}{k:List SV→Option α}{l:List SV}{c:α}(h:pQ X k l=some c):∃ r,l=X::r∧k r=some c:=by
 unfold pQ at h;split at h
 ·split at h
  ·rename_i e;subst e;exact⟨_,rfl,h⟩
  ·cases h
 ·cases h
def pXR {α:Type 1}(t:Tag)(k:List t.T→List SV→Option α):List SV→Option α
 | .ep [.rs k' l] 0::r=>yZ t k r k' l
 |_=>none
@[go_sem] theorem Vp {α:Type 1}{t:Tag}{k:List t.T→List SV→Option α}{l:List t.T}{r:List SV}:pXR t k (.ep [.rs t l] 0::r)=k l r:=by simp[pXR,yZ]
theorem Lr {α:Type 1}{t:Tag}{k:List t.T→List SV→Option α}{l:List SV}{c:α}(h:pXR t k l=some c):∃ x r,l=.ep [.rs t x] 0::r∧k x r=some c:=by
 unfold pXR at h;split at h
 ·rename_i k' l' r;unfold yZ at h;split at h
  ·rename_i e;subst e;exact⟨_,_,rfl,h⟩
  ·cases h
 ·cases h
theorem fI (hm:P.follows .mixedOrders=true) (hts:ts.ok P) (hG:ConsOk P G) {f:FuncId} {fn:Func} {c:Code} (hf:P.funcs[f]? =some fn) (hb:fn.body=some c) (hname:(fn.name== "runtime.NumGoroutine")=false)
  (hc:cb fn.ntmps c=true) {C:List SV→List Ob→Option HCon}
  (h:∀ l o con,C l o=some con→∃ p S H,con=eG p S H∧(p→l.length≤fn.ntmps∧∃ L,al P none fn.ntmps L c∧exec ts G L c ⟨jn 0 l,o⟩ (IE o.length fn.results.toList ts S H))):FnOkO P f C:=by
 refine wP hm hts hG hf hb hname hc fun l o con hC hp=>?_;obtain⟨p,S,H,rfl,h2⟩:=h l o con hC;obtain⟨h3,L,h4,h5⟩:=h2 hp;refine⟨h3,L,_,h4,fun e st hq=>?_,h5⟩;cases e with
 |normal=>
  change DI _ _ _ _ _ at hq;show sp _ _ _ _;cases hs:lF (jU ts st fn.results.toList)with
  |none=>rw[hs]at hq;exact hq.elim
  |some s=>rw[hs]at hq;obtain⟨js,q1,q2⟩:=hq;exact⟨(),S,H,js,trivial,rfl,q1,q2⟩
 |ret=>
  change DI _ _ _ _ _ at hq;show sp _ _ _ _;cases hs:lF (jU ts st fn.results.toList)with
  |none=>rw[hs]at hq;exact hq.elim
  |some s=>rw[hs]at hq;obtain⟨js,q1,q2⟩:=hq;exact⟨(),S,H,js,trivial,rfl,q1,q2⟩
 |exit j=>exact hq.elim
 |pan x=>exact hq.elim
end
end Go.Sx
end
section
namespace Go.Sx
attribute [go_sem] true_imp_iff false_imp_iff Bool.false_eq_true Int.toNat_natCast Int.toNat_zero true_and and_true and_self implies_true forall_const
theorem cl {p:Prop}(h:p:=by(first|done|(repeat' (first|with_reducible refine And.intro ?_ ?_|((with_reducible show _≠_);first|assumption|omega|(simp_all [eF,fc];done) |grind) |with_reducible intro _)) <;>(first|done|with_reducible exact Empty.elim ‹Empty› |with_reducible assumption|rfl|omega|assumption|(simp only[*,cond_true,cond_false,Bool.not_true,Bool.not_false,go_sem,Nat.reduceBEq,Nat.reduceLeDiff,Nat.reduceAdd,Nat.reduceSub,Nat.reduceMul,Int.reduceLE,Int.reduceLT,Int.reduceToNat,Int.reduceNeg,reduceCtorEq];done) |(simp only[*,cond_true,cond_false,Bool.not_true,Bool.not_false,go_sem,Nat.reduceBEq,Nat.reduceLeDiff,Nat.reduceAdd,Nat.reduceSub,Nat.reduceMul,Int.reduceLE,Int.reduceLT,Int.reduceToNat,Int.reduceNeg,reduceCtorEq];(repeat' (first|with_reducible refine And.intro ?_ ?_|((with_reducible show _≠_);first|assumption|omega|(simp_all [eF,fc];done) |grind) |with_reducible intro _)) <;>(first|done|assumption|rfl|omega|(simp_all [eF,fc];done))) |(simp_all [okI,eF,fc];done) |grind))):p:=h
theorem cl2 {p:Prop}(h:p:=by(first|done|(repeat' (first|with_reducible refine And.intro ?_ ?_|((with_reducible show _≠_);first|assumption|omega|(simp_all [eF,fc];done) |grind) |with_reducible intro _)) <;>(first|done|with_reducible exact Empty.elim ‹Empty› |with_reducible assumption|rfl|omega|assumption|(simp only[*,go_sem,Nat.reduceBEq,Nat.reduceLeDiff,Nat.reduceAdd,Nat.reduceSub,Nat.reduceMul,Int.reduceLE,Int.reduceLT,Int.reduceToNat,Int.reduceNeg,reduceCtorEq];done) |(simp_all [eF,fc];done)))):p:=h
inductive JL:List Nat→Prop
 |mk (l:List Nat):JL l
theorem jl (l:List Nat):JL l:=.mk l
theorem fk {st2 st:St}{n0:Nat}{js:List Nat}(_:JL js)(h1:n0≤st2.h.length:=by(first|(show _≤_;decide) |(simp only[*,go_sem,Nat.reduceBEq,Nat.reduceLeDiff,Nat.reduceAdd,Nat.reduceSub,Nat.reduceMul,Int.reduceLE,Int.reduceLT,Int.reduceToNat,Int.reduceNeg,reduceCtorEq];done) |(simp only[*,go_sem,Nat.reduceBEq,Nat.reduceLeDiff,Nat.reduceAdd,Nat.reduceSub,Nat.reduceMul,Int.reduceLE,Int.reduceLT,Int.reduceToNat,Int.reduceNeg,reduceCtorEq];(repeat' (first|with_reducible refine And.intro ?_ ?_|((with_reducible show _≠_);first|assumption|omega|(simp_all [eF,fc];done) |grind) |with_reducible intro _)) <;>(first|rfl|decide|assumption|omega|(simp_all [eF,fc];done)))))(h2:Sub js n0 st st2:=by(first|(show _≤_;decide) |(simp only[*,go_sem,Nat.reduceBEq,Nat.reduceLeDiff,Nat.reduceAdd,Nat.reduceSub,Nat.reduceMul,Int.reduceLE,Int.reduceLT,Int.reduceToNat,Int.reduceNeg,reduceCtorEq];done) |(simp only[*,go_sem,Nat.reduceBEq,Nat.reduceLeDiff,Nat.reduceAdd,Nat.reduceSub,Nat.reduceMul,Int.reduceLE,Int.reduceLT,Int.reduceToNat,Int.reduceNeg,reduceCtorEq];(repeat' (first|with_reducible refine And.intro ?_ ?_|((with_reducible show _≠_);first|assumption|omega|(simp_all [eF,fc];done) |grind) |with_reducible intro _)) <;>(first|rfl|decide|assumption|omega|(simp_all [eF,fc];done))))):fV st2 n0 st:=Ai js h1 h2
theorem fk2 {st2 st:St}{n0:Nat}{js:List Nat}(_:JL js)(h1:n0≤st2.h.length:=by(first|(show _≤_;decide) |(simp only[go_sem,Nat.reduceBEq,Nat.reduceLeDiff,Nat.reduceAdd,Nat.reduceSub,Nat.reduceMul,Int.reduceLE,Int.reduceLT,Int.reduceToNat,Int.reduceNeg,reduceCtorEq];(repeat' (first|with_reducible refine And.intro ?_ ?_|((with_reducible show _≠_);first|assumption|omega|(simp_all [eF,fc];done) |grind) |with_reducible intro _)) <;>(first|rfl|decide|assumption|omega|(simp_all [eF,fc];done)))))(h2:Sub js n0 st st2:=by(first|(show _≤_;decide) |(simp only[go_sem,Nat.reduceBEq,Nat.reduceLeDiff,Nat.reduceAdd,Nat.reduceSub,Nat.reduceMul,Int.reduceLE,Int.reduceLT,Int.reduceToNat,Int.reduceNeg,reduceCtorEq];(repeat' (first|with_reducible refine And.intro ?_ ?_|((with_reducible show _≠_);first|assumption|omega|(simp_all [eF,fc];done) |grind) |with_reducible intro _)) <;>(first|rfl|decide|assumption|omega|(simp_all [eF,fc];done))))):fV st2 n0 st:=Ai js h1 h2
theorem cg0 {α:Type _}{p:α→Prop}:∀ x∈([]:List α),p x:=fun _ h=>by cases h
theorem cgc {α:Type _}{p:α→Prop}{a:α}{l:List α}(h:p a)(t:∀ x∈l,p x):∀ x∈a::l,p x:=fun x hx=>by
 rcases List.mem_cons.1 hx with rfl|hx
 ·exact h
 ·exact t x hx
attribute [go_sem] if_true
end Go.Sx
end
section
namespace Go.Sx
open Go.RowKit
open IntKind (i64)
section
variable {P:Program}
end
def okL {ρ σ τ:Type}(step:τ→σ→ρ⊕σ)(p:τ→σ→Prop):List τ→σ→Prop
 | [],_=>True
 |x::l,s=>p x s∧∀ s',step x s=.inr s'→okL step p l s'
section
variable {ρ σ τ:Type}
def rgN (T:List (Nat×SV))(H:σ→List Ob)(n0:Nat)(st:St):ρ⊕σ→Prop
 | .inl _=>False
 | .inr s'=>fV ⟨T,H s'⟩ n0 ⟨T,st.h⟩
def rgX (exE:ρ→Ex)(T:List (Nat×SV))(Hy:ρ→List Ob)(n0:Nat)(e:Ex)(st:St):ρ⊕σ→Prop
 | .inl y=>exE y=e∧fV ⟨T,Hy y⟩ n0 ⟨T,st.h⟩
 | .inr _=>False
def rgQ (step:τ→σ→ρ⊕σ)(exE:ρ→Ex)(T:List (Nat×SV))(H:σ→List Ob)(Hy:ρ→List Ob)(n0 id:Nat)(x:τ)(s:σ):Ex→St→Prop
 | .normal,st=>rgN T H n0 st (step x s)
 | .exit j,st=>rgX exE T Hy n0 (bif Nat.beq j id then .normal else .exit j) st (step x s)
 | .ret,st=>rgX exE T Hy n0 .ret st (step x s)
 | .pan _,_=>False
variable {step:τ→σ→ρ⊕σ}{exE:ρ→Ex}{T:List (Nat×SV)}{H:σ→List Ob}{Hy:ρ→List Ob}{n0 id j:Nat}{x:τ}{s s':σ}{y:ρ}{st:St}{e:Ex}
@[go_sem] theorem Ur:rgN (ρ:=ρ) T H n0 st (.inr s')=fV ⟨T,H s'⟩ n0 ⟨T,st.h⟩:=(rfl)
@[go_sem] theorem Us:rgX (σ:=σ) exE T Hy n0 e st (.inl y)=(exE y=e∧fV ⟨T,Hy y⟩ n0 ⟨T,st.h⟩):=(rfl)
@[go_sem] theorem Ow:rgQ step exE T H Hy n0 id x s .normal st=rgN T H n0 st (step x s):=(rfl)
@[go_sem] theorem Ut:rgQ step exE T H Hy n0 id x s .ret st=rgX exE T Hy n0 .ret st (step x s):=(rfl)
@[go_sem] theorem SC:rgQ step exE T H Hy n0 id x s (.exit j) st=rgX exE T Hy n0 (bif Nat.beq j id then .normal else .exit j) st (step x s):=(rfl)
@[congr] theorem QQ {r r':ρ⊕σ}(h:r=r'):rgN T H n0 st r=rgN T H n0 st r':=by rw[h]
end
section
variable {P:Program}{ts:Tis}{G:Cons}{N:Nat}
theorem tX (hm:P.follows .mixedOrders=true)(hts:ts.ok P)(hG:ConsOk P G){id:Nat}{g:Operand}{ps:Array Tmp}{assign body:Code}{C:St→Option LCon}
  (hpn:ps.toList.Nodup) (hpN:∀ p∈ps.toList,p<N) (hca:cb N assign=true) (hcb:cb N body=true)
  (h:∀ st lc,C st=some lc→lc.pre→∃ (f:FuncId) (caps:List SV) (τ ρ σ:Type) (l:List τ) (mk:τ→List SV) (step:τ→σ→ρ⊕σ) (p:τ→σ→Prop) (pre:Prop) (s0:σ) (exE:ρ→Ex) (outE:ρ→St) (outN:σ→St) (T:List (Nat×SV)) (H:σ→List Ob) (Hy:ρ→List Ob) (js:List Nat),
   raw st.t g=.fn f [] caps∧lc=LC pre (dO step l s0) exE outE outN∧okL step p l s0∧st.h.length≤(H s0).length∧Sub js st.h.length ⟨st.t,pm (iY st caps) st.h⟩ ⟨T,H s0⟩∧
   Ag P f (fun y=>y::caps.map (ren (DF (iY st caps)) 3)) (BK (iY st caps) st.h) (l.map mk)∧
   (∀ x s,p x s→(mk x).length=ps.size∧∃ L,(∀ l,al P (some l) N L assign)∧(∀ l,al P (some l) N L body)∧exec ts G L assign ⟨psT ps.toList (mk x)++T,H s⟩ (fun e st1=>e=.normal∧exec ts G L body st1 (rgQ step exE T H Hy st.h.length id x s)))∧
   (∀ s,fV (outN s) st.h.length ⟨T,H s⟩)∧∀ y,fV (outE y) st.h.length ⟨T,Hy y⟩):iv P none N id (.rangeFunc g ps assign body) C:=by
 refine BL hm hts hG hpn hpN hca hcb fun st lc hC hp=>?_;obtain⟨f,caps,τ,ρ,σ,l,mk,step,p,pre,s0,exE,outE,outN,T,H,Hy,js,h1,rfl,h2,h3,h4,h5,h6,h7,h8⟩:=h st lc hC hp;refine⟨f,caps,l.map mk,σ⊕ρ,T,fun z=>match z with| .inl s=>H s| .inr y=>Hy y,fun k z=>match z with| .inl s=>dO step (l.drop k) s=dO step l s0∧okL step p (l.drop k) s| .inr _=>False,
  fun e z=>match z with| .inl _=>False| .inr y=>dO step l s0=.inl y∧(match e with| .ret=>exE y=.ret| .exit j=>exE y=(bif Nat.beq j id then .normal else .exit j) |_=>False),.inl s0,js,h1,⟨rfl,h2⟩,h3,h4,h5,?_,?_,?_,?_⟩
 ·rintro k z args hk hI;cases z with
  |inr y=>exact hI.elim
  |inl s=>
   obtain⟨hrun,hok⟩:=hI;rw[List.getElem?_map,Option.map_eq_some_iff]at hk;obtain⟨x,hx,rfl⟩:=hk;have hlt:=(List.getElem?_eq_some_iff.1 hx).1;have hd:l.drop k=x::l.drop (k+1):=by
    rw[List.drop_eq_getElem_cons hlt];congr 1;exact(List.getElem?_eq_some_iff.1 hx).2
   rw[hd]at hrun hok;obtain⟨hl,L,hla,hlb,hex⟩:=h6 x s hok.1;refine⟨hl,L,_,hla,hlb,?_,hex⟩;intro e st' hq;have fin:∀ e',rgX exE T Hy st.h.length e' st' (step x s)→∃ y js,exE y=e'∧dO step l s0=.inl y∧st.h.length≤(Hy y).length∧Sub js st.h.length ⟨T,st'.h⟩ ⟨T,Hy y⟩:=by
    intro e' q;cases hs:step x s with
    |inr s'=>rw[hs]at q;exact q.elim
    |inl y=>
     rw[hs]at q;obtain⟨q1,js,q2,q3⟩:=q;simp only[dO,hs]at hrun;exact⟨y,js,q1,hrun.symm,q2,q3⟩
   cases e with
   |normal=>
    change rgN T H st.h.length st' (step x s)at hq;cases hs:step x s with
    |inl y=>rw[hs]at hq;exact hq.elim
    |inr s'=>
     rw[hs]at hq;obtain⟨js,q1,q2⟩:=hq;simp only[dO,hs]at hrun;exact⟨.inl s',js,⟨hrun,hok.2 s' hs⟩,q1,q2⟩
   |exit j=>
    obtain⟨y,js,q1,q2,q3,q4⟩:=fin _ hq;exact⟨.inr y,js,⟨q2,q1⟩,q3,q4⟩
   |ret=>
    obtain⟨y,js,q1,q2,q3,q4⟩:=fin _ hq;exact⟨.inr y,js,⟨q2,q1⟩,q3,q4⟩
   |pan x=>exact hq.elim
 ·intro z hI;cases z with
  |inr y=>exact hI.elim
  |inl s=>
   obtain⟨js,q1,q2⟩:=h7 s;have:=hI.1;rw[List.length_map,List.drop_length]at this;exact⟨.inr s,js,this,rfl,q1,q2⟩
 ·intro z hS;cases z with
  |inl s=>exact hS.elim
  |inr y=>
   obtain⟨js,q1,q2⟩:=h8 y;exact⟨.inl y,js,hS.1.symm,hS.2,q1,q2⟩
 ·intro j z hS;cases z with
  |inl s=>exact hS.elim
  |inr y=>
   obtain⟨js,q1,q2⟩:=h8 y;refine⟨.inl y,js,hS.1.symm,?_,q1,q2⟩;have:=hS.2;show exE y=_;rw[this];by_cases hj:j=id
   ·rw[if_pos hj];have hb:Nat.beq j id=true:=by rw[hj];exact Nat.beq_refl id
    rw[hb];rfl
   ·rw[if_neg hj];cases hb:Nat.beq j id with
    |true=>exact absurd (Nat.eq_of_beq_eq_true hb) hj
    |false=>rfl
end
section
variable {P:Program}{ρ σ τ:Type}
def rT:Ob→Option Nat
 | .mi _ _ _ c=>c
 |_=>none
def nxC (step:τ→σ→ρ⊕σ)(l:List τ)(d:τ)(D:List Nat→Option Nat→σ→St)(n0:Nat)(left:List Nat)(s:σ)(st:St):Option Nat→Prop
 |some j=>j∈left∧nM (fun _ s'=>D (left.erase j) (some j) s') n0 0 st (step (l.getD j d) s)
 |none=>False
def exC (step:τ→σ→ρ⊕σ)(l:List τ)(d:τ)(exE:ρ→Ex)(outE:ρ→St)(n0:Nat)(left:List Nat)(s:σ)(e:Ex)(st:St):Option Nat→Prop
 |some j=>j∈left∧jv exE outE n0 e st (step (l.getD j d) s)
 |none=>False
def cM (step:τ→σ→ρ⊕σ)(l:List τ)(d:τ)(exE:ρ→Ex)(outE:ρ→St)(outN:σ→St)(D:List Nat→Option Nat→σ→St)(n0 id it:Nat)(left:List Nat)(s:σ):Ex→St→Prop
 | .normal,st=>nxC step l d D n0 left s st (rT (ag st.h it))
 | .exit j,st=>bif Nat.beq j id then(left=[]→fV (outN s) n0 st)∧(left≠[]→exC step l d exE outE n0 left s .normal st (rT (ag st.h it)))else exC step l d exE outE n0 left s (.exit j) st (rT (ag st.h it))
 | .ret,st=>exC step l d exE outE n0 left s .ret st (rT (ag st.h it))
 | .pan x,st=>exC step l d exE outE n0 left s (.pan x) st (rT (ag st.h it))
variable {step:τ→σ→ρ⊕σ}{l:List τ}{d:τ}{n0 id it j:Nat}{exE:ρ→Ex}{outE:ρ→St}{outN:σ→St}{D:List Nat→Option Nat→σ→St}{left:List Nat}{s s':σ}{st:St}{x:Value}{e:Ex}{y:ρ}{t:List (Nat×SV)}{h:List Ob}
@[go_sem] theorem Uu {m:Option Nat}{n:Nat}{left:List Nat}{c:Option Nat}:rT (.mi m n left c)=c:=(rfl)
@[go_sem] theorem SD:nxC step l d D n0 left s st (some j)=(j∈left∧nM (fun _ s'=>D (left.erase j) (some j) s') n0 0 st (step (l.getD j d) s)):=(rfl)
@[go_sem] theorem SE:exC step l d exE outE n0 left s e st (some j)=(j∈left∧jv exE outE n0 e st (step (l.getD j d) s)):=(rfl)
@[go_sem] theorem QR:cM step l d exE outE outN D n0 id it left s .normal ⟨t,h⟩=nxC step l d D n0 left s ⟨t,h⟩ (rT (ag h it)):=(rfl)
@[go_sem] theorem Uv:cM step l d exE outE outN D n0 id it left s (.exit j) ⟨t,h⟩=bif Nat.beq j id then(left=[]→fV (outN s) n0 ⟨t,h⟩)∧(left≠[]→exC step l d exE outE n0 left s .normal ⟨t,h⟩ (rT (ag h it)))else exC step l d exE outE n0 left s (.exit j) ⟨t,h⟩ (rT (ag h it)):=(rfl)
@[go_sem] theorem Vq:cM step l d exE outE outN D n0 id it left s .ret ⟨t,h⟩=exC step l d exE outE n0 left s .ret ⟨t,h⟩ (rT (ag h it)):=(rfl)
@[go_sem] theorem Vr:cM step l d exE outE outN D n0 id it left s (.pan x) ⟨t,h⟩=exC step l d exE outE n0 left s (.pan x) ⟨t,h⟩ (rT (ag h it)):=(rfl)
@[congr] theorem SF {st st':St}{e e':Ex}(h:st=st')(he:e=e'):cM step l d exE outE outN D n0 id it left s e st=cM step l d exE outE outN D n0 id it left s e' st':=by rw[h,he]
attribute [go_sem] Hm
@[go_sem] theorem SG {t:List (Nat×SV)}{h:List Ob}{d:Nat}{s:SV}:St.put ⟨t,h⟩ (some d) s=⟨(d,s)::t,h⟩:=(rfl)
@[go_sem] theorem SH {t:List (Nat×SV)}{h:List Ob}{s:SV}:St.put ⟨t,h⟩ none s=⟨t,h⟩:=(rfl)
theorem wX (l:List τ)(d:τ):(List.range l.length).map (fun j=>l.getD j d)=l:=by
 apply List.ext_getElem
 ·simp
 ·intro i h1 h2;simp only[List.length_map,List.length_range]at h1;simp[List.getD_eq_getElem?_getD,List.getElem?_eq_getElem h1]
end
inductive NLoc where
 |slot (i:Nat) (o:Ob)
 |cell (i j:Nat) (o:Ob)
def IF (j n:Nat):Ob→Ob
 | .cells l=>.cells (l.set j (.os n))
 |o=>o
def Ls (j:Nat):Ob→Prop
 | .cells l=>nth l j=some (.v (.slice none 0 0))
 |_=>False
def wY:Ob→Prop
 | .row _ l=>l=[]
 | .grid _ l=>l=[]
 |_=>False
def Gn:SV→Ob→Prop
 | .v (.slice none 0 0),_=>True
 | .e0,.row _ _=>True
 |_,_=>False
def mkN:List NLoc→St→St
 | [],st=>st
 | .slot i o::r,⟨t,h⟩ =>mkN r ⟨(i,.os h.length)::t,h++[o]⟩
 | .cell i j o::r,⟨t,h⟩ =>mkN r ⟨t,bw h i (IF j h.length (ag h i))++[o]⟩
def okN:List NLoc→St→Prop
 | [],_=>True
 | .slot i o::r,⟨t,h⟩ =>Gn (lk i t) o∧wY o∧okN r ⟨(i,.os h.length)::t,h++[o]⟩
 | .cell i j o::r,⟨t,h⟩ =>Ls j (ag h i)∧wY o∧okN r ⟨t,bw h i (IF j h.length (ag h i))++[o]⟩
section
variable {i j m n:Nat}{o:Ob}{r:List NLoc}{t t2:List (Nat×SV)}{h h2:List Ob}{l:List SV}{ns:List NLoc}{js:List Nat}{st:St}
@[go_sem] theorem Uw:mkN [] st=st:=(rfl)
@[go_sem] theorem SI:mkN (.slot i o::r) ⟨t,h⟩=mkN r ⟨(i,.os h.length)::t,h++[o]⟩:=(rfl)
@[go_sem] theorem SJ:mkN (.cell i j o::r) ⟨t,h⟩=mkN r ⟨t,bw h i (IF j h.length (ag h i))++[o]⟩:=(rfl)
@[go_sem] theorem Ux:okN [] st=True:=(rfl)
@[go_sem] theorem SK:okN (.slot i o::r) ⟨t,h⟩=(Gn (lk i t) o∧wY o∧okN r ⟨(i,.os h.length)::t,h++[o]⟩):=(rfl)
@[go_sem] theorem SL:okN (.cell i j o::r) ⟨t,h⟩=(Ls j (ag h i)∧wY o∧okN r ⟨t,bw h i (IF j h.length (ag h i))++[o]⟩):=(rfl)
@[go_sem] theorem SM:Gn (.v (.slice none 0 0)) o=True:=by cases o <;>rfl
@[go_sem] theorem Uy {k:Tag}{m:List k.T}:Gn .e0 (.row k m)=True:=(rfl)
@[go_sem] theorem Ox:IF j n (.cells l)=.cells (l.set j (.os n)):=(rfl)
@[go_sem] theorem Oy:Ls j (.cells l)=(nth l j=some (.v (.slice none 0 0))):=(rfl)
theorem E5 (h:wY o):(∃ k,o=.row k [])∨∃ k,o=.grid k []:=by
 cases o <;>simp only[wY]at h
 ·subst h;exact .inl ⟨_,rfl⟩
 ·subst h;exact .inr ⟨_,rfl⟩
theorem IG {s:SV}{o:Ob}(h:Gn s o):s=.v (.slice none 0 0)∨(s=.e0∧∃ k l,o=.row k l):=by
 unfold Gn at h;split at h
 ·exact .inl rfl
 ·exact .inr ⟨rfl,_,_,rfl⟩
 ·exact h.elim
theorem rU:∀ (ns:List NLoc) (st0 st:St),NilS st0 st→okN ns st→NilS st0 (mkN ns st)
 | [],_,_,hn,_=>hn
 | .slot i o::r,st0,⟨t,h⟩,hn,hk=>by
  rcases IG hk.1 with e| ⟨e,k,l,ho⟩
  ·exact rU r st0 _ (.slot o hn e (E5 hk.2.1)) hk.2.2
  ·have h2:=hk.2.1;have h3:=hk.2.2;rw[ho]at h2 h3;simp only[wY]at h2;subst h2;subst ho;exact rU r st0 _ (.slotE k hn e) h3
 | .cell i j o::r,st0,⟨t,h⟩,hn,hk=>by
  refine rU r st0 _ ?_ hk.2.2;have h1:=hk.1;cases ho:ag h i with
  |cells l=>
   rw[ho]at h1;simp only[Ls,dN]at h1;exact .cell o hn ho h1 (E5 hk.2.1)
  |_=>rw[ho]at h1;exact h1.elim
def ou (m:Nat)(ns:List NLoc)(js:List Nat)(st d:St):Prop:=st.h.length=m∧okN ns st∧m≤d.h.length∧Sub js m (mkN ns st) d
@[go_sem] theorem QS:ou m ns js ⟨t,h⟩ ⟨t2,h2⟩=(h.length=m∧okN ns ⟨t,h⟩∧m≤h2.length∧Sub js m (mkN ns ⟨t,h⟩) ⟨t2,h2⟩):=(rfl)
end
theorem ah {P:Program}{ro:Option Nat}{N:Nat}(c:Code):al P ro N L0 c:=by
 induction c with
 |seq a b ha hb=>exact⟨ha,hb⟩
 |cond _ a b ha hb=>exact⟨ha,hb⟩
 |block id c hc=>
  cases c with
  |loop c=>exact fun _ _ _ _ _ h=>by cases h
  |rangeFunc f ps a b=>exact fun _ _ _ _ _ h=>by cases h
  |_=>exact hc
 |_=>trivial
section
variable {ρ σ τ:Type}
def pT:Nat→σ→Prop:=fun _ _=>True
@[go_sem] theorem Vs {step:Nat→σ→ρ⊕σ}{n i:Nat}{s:σ}:okI step pT n i s=True:=eq_true (mN _ _ _ fun _ _ _ _=>trivial)
def LCR (m:Nat)(ns:List NLoc)(js:List Nat)(D:Nat→σ→St)(step:Nat→σ→ρ⊕σ)(p:Nat→σ→Prop)(n:Nat)(s0:σ)(B:Prop)(exE:ρ→Ex)(outE:ρ→St)(st:St):LCon:=
 LC (ou m ns js st (D 0 s0)∧B∧okI step p n 0 s0) (aq step n 0 s0) exE outE (D n)
def LCV (m:Nat)(ns:List NLoc)(js:List Nat)(D:Nat→σ→St)(step:Nat→σ→ρ⊕σ)(p:Nat→σ→Prop)(n:Nat)(s0:σ)(exE:ρ→Ex)(outE:ρ→St)(st:St):LCon:=
 LC (ou m ns js st (D 0 s0)∧okI step p n 0 s0∧∀ s,aq step n 0 s0≠ .inr s) (aq step n 0 s0) exE outE (D n)
variable {m:Nat}{ns:List NLoc}{js:List Nat}{step:Nat→σ→ρ⊕σ}{p:Nat→σ→Prop}{n:Nat}{s0:σ}{B:Prop}{exE:ρ→Ex}{outE:ρ→St}{outN:σ→St}{st:St}{Q:Ex→St→Prop}
@[go_sem] theorem QT {D:Nat→σ→St}:l8 Q (some (LCR m ns js D step p n s0 B exE outE st))=((ou m ns js st (D 0 s0)∧B∧okI step p n 0 s0)∧(∀ x,aq step n 0 s0=.inl x→Q (exE x) (outE x))∧∀ s,aq step n 0 s0=.inr s→Q .normal (D n s)):=BH
@[go_sem] theorem QU {D:Nat→σ→St}:l8 Q (some (LCV m ns js D step p n s0 exE outE st))=((ou m ns js st (D 0 s0)∧okI step p n 0 s0∧∀ s,aq step n 0 s0≠ .inr s)∧∀ x,aq step n 0 s0=.inl x→Q (exE x) (outE x)):=by
 refine BH.trans ?_;apply propext;constructor
 ·rintro⟨h1,h2,_⟩;exact⟨h1,h2⟩
 ·rintro⟨h1,h2⟩;exact⟨h1,h2,fun s hs=>absurd hs (h1.2.2 s)⟩
def cR (step:Nat→σ→ρ⊕σ)(exE:ρ→Ex)(outE:ρ→St)(D:Nat→σ→St)(m id k:Nat)(s:σ):Ex→St→Prop
 | .normal,st=>nM D m k st (step k s)
 | .exit j,st=>jv exE outE m (bif Nat.beq j id then .normal else .exit j) st (step k s)
 | .ret,st=>jv exE outE m .ret st (step k s)
 | .pan x,st=>jv exE outE m (.pan x) st (step k s)
def cZ (d:St)(m id:Nat):Ex→St→Prop
 | .exit j,st=>bif Nat.beq j id then fV d m st else False
 |_,_=>False
variable {D:Nat→σ→St}{id k j:Nat}{s:σ}{x:Value}{d:St}{e e':Ex}
@[go_sem] theorem QV:cR step exE outE D m id k s .normal st=nM D m k st (step k s):=(rfl)
@[go_sem] theorem Uz:cR step exE outE D m id k s (.exit j) st=jv exE outE m (bif Nat.beq j id then .normal else .exit j) st (step k s):=(rfl)
@[go_sem] theorem Vt:cR step exE outE D m id k s .ret st=jv exE outE m .ret st (step k s):=(rfl)
@[go_sem] theorem Vu:cR step exE outE D m id k s (.pan x) st=jv exE outE m (.pan x) st (step k s):=(rfl)
@[go_sem] theorem UA:cZ d m id (.exit j) st=bif Nat.beq j id then fV d m st else False:=(rfl)
@[congr] theorem SN {st':St}(h:st=st')(he:e=e'):cR step exE outE D m id k s e st=cR step exE outE D m id k s e' st':=by rw[h,he]
@[congr] theorem SO {st':St}(h:st=st')(he:e=e'):cZ d m id e st=cZ d m id e' st':=by rw[h,he]
@[congr] theorem MR {r r':ρ⊕σ}(h:r=r')(he:e=e'):jv exE outE m e st r=jv exE outE m e' st r':=by rw[h,he]
end
section
variable {P:Program}{ρ σ τ:Type}{ts:Tis}{G:Cons}{ro:Option Nat}{N:Nat}{id:Nat}{c:Code}{C:St→Option LCon}{m:Nat}{ns:List NLoc}{js:List Nat}{step:Nat→σ→ρ⊕σ}{p:Nat→σ→Prop}{n:Nat}{s0:σ}{exE:ρ→Ex}{outE:ρ→St}{D:Nat→σ→St}
theorem IH {n0:Nat}(hn0:n0=m){s:σ}{k:Nat}(hlt:k<n){I:Nat×σ→Prop}{μ:Nat×σ→Nat}{outN:σ→St}{pre:Prop}{run:ρ⊕σ}
  (hI:∀ s',step k s=.inr s'→I (k+1,s')∧μ (k+1,s') <μ (k,s)) (hx:∀ x,step k s=.inl x→run=.inl x):
  ∀ e st',cR step exE outE D m id k s e st'→og (fun x:Nat×σ=>D x.1 x.2) I μ n0 (k,s) id (fun e st'=>∃ r js,(LC pre run exE outE outN).post r∧(LC pre run exE outE outN).ex r=e∧n0≤((LC pre run exE outE outN).out r).h.length∧Sub js n0 st' ((LC pre run exE outE outN).out r)) e st':=by
 subst hn0;have hfin:∀ e st',jv exE outE n0 e st' (step k s)→∃ r js,(LC pre run exE outE outN).post r∧(LC pre run exE outE outN).ex r=e∧n0≤((LC pre run exE outE outN).out r).h.length∧Sub js n0 st' ((LC pre run exE outE outN).out r):=by
  intro e st' q;cases hs:step k s with
  |inr s'=>rw[hs]at q;exact q.elim
  |inl x=>
   rw[hs]at q;obtain⟨q2,js,q3,q4⟩:=q;exact⟨.inl x,js,(hx x hs).symm,q2,q3,q4⟩
 intro e st' hq;cases e with
 |normal=>
  change nM D n0 k st' (step k s)at hq;cases hs:step k s with
  |inl x=>rw[hs]at hq;exact hq.elim
  |inr s'=>
   rw[hs]at hq;obtain⟨js,q3,q4⟩:=hq;obtain⟨i1,i2⟩:=hI s' hs;exact⟨(k+1,s'),js,i1,i2,q3,q4⟩
 |exit j=>
  change jv exE outE n0 (bif Nat.beq j id then .normal else .exit j) st' (step k s)at hq;show bif Nat.beq j id then _ else _;cases hb:Nat.beq j id with
  |true=>rw[hb]at hq;exact hfin _ _ hq
  |false=>rw[hb]at hq;exact hfin _ _ hq
 |ret=>exact hfin _ _ hq
 |pan x=>exact hfin _ _ hq
theorem tY {B:Prop}(hm:P.follows .mixedOrders=true)(hts:ts.ok P)(hG:ConsOk P G)(hc:cb N c=true)(hC:∀ st,C st=some (LCR m ns js D step p n s0 B exE outE st))
  (h:B→∀ k s,k<n→p k s→∃ L Q,al P ro N L c∧(∀ e st',Q e st'→cR step exE outE D m id k s e st')∧exec ts G L c (D k s) Q)
  (h2:B→∀ s,∃ Q,(∀ e st',Q e st'→cZ (D n s) m id e st')∧exec ts G L0 c (D n s) Q):iv P ro N id (.loop c) C:=by
 refine sO hm hts hG hc fun st lc hC' hp=>?_;rw[hC st]at hC';cases hC';obtain⟨⟨hlen,hok,hle,hsub⟩,hB,h1⟩:=hp;refine⟨Nat×σ,fun x=>D x.1 x.2,fun x=>x.1≤n∧okI step p (n - x.1) x.1 x.2∧aq step (n - x.1) x.1 x.2=aq step n 0 s0,fun x=>n - x.1,(0,s0),mkN ns st,js,⟨Nat.zero_le _,by simpa using h1,by simp⟩,rU ns st st (.refl _) hok,by rw[hlen];exact hle,by rw[hlen];exact hsub,?_⟩;rintro⟨k,s⟩ ⟨hk,hJ,hrun⟩;simp only at hk hJ hrun;rcases Nat.lt_or_ge k n with hlt|hge
 ·rw[show n - k=(n - k - 1)+1 by omega]at hrun hJ;obtain⟨L,Q,hl,hQ,hex⟩:=h hB k s hlt hJ.1;have hI:∀ s',step k s=.inr s'→okI step p (n - (k+1)) (k+1) s'∧aq step (n - (k+1)) (k+1) s'=aq step n 0 s0:=fun s' hs=>by
   have:=hJ.2 s' hs;rw[show n - k - 1=n - (k+1) by omega]at this hrun;simp only[aq,hs]at hrun;exact⟨this,hrun⟩
  have hx:∀ x,step k s=.inl x→aq step n 0 s0=.inl x:=fun x hs=>by
   simp only[aq,hs]at hrun;exact hrun.symm
  exact⟨L,Q,hl,fun e st' q=>IH hlen hlt (fun s' hs=>⟨⟨hlt,hI s' hs⟩,by simp only;omega⟩) hx e st' (hQ e st' q),hex⟩
 ·have hkn:k=n:=by omega
  subst hkn;obtain⟨Q,hQ,hex⟩:=h2 hB s;refine⟨L0,Q,ah c,fun e st' q=>?_,hex⟩;have hq:=hQ e st' q;simp only[Nat.sub_self,aq]at hrun;cases e with
  |exit j=>
   change bif Nat.beq j id then fV (D k s) m st' else False at hq;show bif Nat.beq j id then _ else _;cases hb:Nat.beq j id with
   |true=>
    rw[hb]at hq;obtain⟨js,q3,q4⟩:=hq;exact⟨.inr s,js,hrun,rfl,by rw[hlen];exact q3,by rw[hlen];exact q4⟩
   |false=>rw[hb]at hq;exact hq.elim
  |_=>exact hq.elim
theorem c5 {B:Prop}(hm:P.follows .mixedOrders=true)(hts:ts.ok P)(hG:ConsOk P G)(hc:cb N c=true)(hC:∀ st,C st=some (LCR m ns js D step p n s0 B exE outE st))(M:Int)(hn:n=M.toNat)(hB:B→M<9223372036854775808)
  (h:B→∀ k s,k<n→p k s→i64.wrap ((k:Int)+1)=((k+1:Nat):Int)→decide ((k:Int) <M)=true→∃ L,al P ro N L c∧exec ts G L c (D k s) (cR step exE outE D m id k s))
  (h2:B→∀ s,decide ((n:Int) <M)=false→exec ts G L0 c (D n s) (cZ (D n s) m id)):iv P ro N id (.loop c) C:=by
 refine tY hm hts hG hc hC (fun b k s hlt hp=>?_) fun b s=>⟨_,fun _ _ q=>q,h2 b s ?_⟩
 ·obtain⟨L,h1,h3⟩:=h b k s hlt hp (Id (hn▸hlt) (hB b)) (decide_eq_true (by omega));exact⟨L,_,h1,fun _ _ q=>q,h3⟩
 ·rw[decide_eq_false_iff_not];omega
theorem jw (E:Prop)(hm:P.follows .mixedOrders=true)(hts:ts.ok P)(hG:ConsOk P G)(hc:cb N c=true)(hC:∀ st,C st=some (LCR m ns js D step p n s0 True exE outE st))(M:Int)(hn:n=M.toNat)(hE:E→M<9223372036854775808)
  (h:E→∀ k s,k<n→p k s→i64.wrap ((k:Int)+1)=((k+1:Nat):Int)→decide ((k:Int) <M)=true→∃ L,al P ro N L c∧exec ts G L c (D k s) (cR step exE outE D m id k s))
  (h2:E→∀ s,decide ((n:Int) <M)=false→exec ts G L0 c (D n s) (cZ (D n s) m id)) (h3:¬E→∀ k s,exec ts G L0 c (D k s) fun _ _=>False):iv P ro N id (.loop c) C:=by
 by_cases hb:E
 ·refine tY hm hts hG hc hC (fun b k s hlt hp=>?_) fun b s=>⟨_,fun _ _ q=>q,h2 hb s ?_⟩
  ·obtain⟨L,h1,h4⟩:=h hb k s hlt hp (Id (hn▸hlt) (hE hb)) (decide_eq_true (by omega));exact⟨L,_,h1,fun _ _ q=>q,h4⟩
  ·rw[decide_eq_false_iff_not];omega
 ·exact tY hm hts hG hc hC (fun _ k s _ _=>⟨L0,_,ah c,fun _ _ q=>q.elim,h3 hb k s⟩) fun _ s=>⟨_,fun _ _ q=>q.elim,h3 hb n s⟩
theorem e_ (hm:P.follows .mixedOrders=true)(hts:ts.ok P)(hG:ConsOk P G)(hc:cb N c=true)(hC:∀ st,C st=some (LCV m ns js D step p n s0 exE outE st))
  (h:∀ k s,p k s→∃ L,al P ro N L c∧exec ts G L c (D k s) (cR step exE outE D m id k s)):iv P ro N id (.loop c) C:=by
 refine sO hm hts hG hc fun st lc hC' hp=>?_;rw[hC st]at hC';cases hC';obtain⟨⟨hlen,hok,hle,hsub⟩,h1,hno⟩:=hp;refine⟨Nat×σ,fun x=>D x.1 x.2,fun x=>x.1≤n∧okI step p (n - x.1) x.1 x.2∧aq step (n - x.1) x.1 x.2=aq step n 0 s0,fun x=>n - x.1,(0,s0),mkN ns st,js,⟨Nat.zero_le _,by simpa using h1,by simp⟩,rU ns st st (.refl _) hok,by rw[hlen];exact hle,by rw[hlen];exact hsub,?_⟩;rintro⟨k,s⟩ ⟨hk,hJ,hrun⟩;simp only at hk hJ hrun;have hlt:k<n:=by
  rcases Nat.lt_or_ge k n with h|h
  ·exact h
  ·have hkn:k=n:=by omega
   subst hkn;simp only[Nat.sub_self,aq]at hrun;exact absurd hrun.symm (hno s)
 rw[show n - k=(n - k - 1)+1 by omega]at hrun hJ;obtain⟨L,hl,hex⟩:=h k s hJ.1;have hI:∀ s',step k s=.inr s'→okI step p (n - (k+1)) (k+1) s'∧aq step (n - (k+1)) (k+1) s'=aq step n 0 s0:=fun s' hs=>by
  have:=hJ.2 s' hs;rw[show n - k - 1=n - (k+1) by omega]at this hrun;simp only[aq,hs]at hrun;exact⟨this,hrun⟩
 have hx:∀ x,step k s=.inl x→aq step n 0 s0=.inl x:=fun x hs=>by
  simp only[aq,hs]at hrun;exact hrun.symm
 exact⟨L,_,hl,fun e st' q=>IH hlen hlt (fun s' hs=>⟨⟨hlt,hI s' hs⟩,by simp only;omega⟩) hx e st' q,hex⟩
theorem iw {α:Type}{l:List α}(h:l.length≤bo):(l.length:Int) <9223372036854775808:=by unfold bo at h;omega
end
section
universe u
variable {α:Type u}{G:List SV→α→Prop}{r:List SV}
theorem b9 {k:Int→List SV→Option α}(h:∀ n l c,k n l=some c→G (.v (.int .i64 n)::l) c):∀ l c,pI k l=some c→G l c:=fun l c hc=>by
 obtain⟨n,r,rfl,h1⟩:=H8 hc;exact h n r c h1
theorem Oz {k:Bool→List SV→Option α}(h:∀ n l c,k n l=some c→G (.v (.bool n)::l) c):∀ l c,pB k l=some c→G l c:=fun l c hc=>by
 obtain⟨n,r,rfl,h1⟩:=Of hc;exact h n r c h1
theorem dY {t:Tag}{k:List t.T→List SV→Option α}(h:∀ n l c,k n l=some c→G (.rs t n::l) c):∀ l c,pR t k l=some c→G l c:=fun l c hc=>by
 obtain⟨n,r,rfl,h1⟩:=Og hc;exact h n r c h1
theorem a7 {t:Tag}{k:t.T→List SV→Option α}(h:∀ n l c,k n l=some c→G (.agg (cellsOf t n)::l) c):∀ l c,pD t k l=some c→G l c:=fun l c hc=>by
 obtain⟨n,r,rfl,h1⟩:=Ia hc;exact h n r c h1
theorem pn {t:Tag}{k:t.T→List SV→Option α}(h:∀ n l c,k n l=some c→G (.ep (cellsOf t n) 0::l) c):∀ l c,pX t k l=some c→G l c:=fun l c hc=>by
 obtain⟨n,r,rfl,h1⟩:=H9 hc;exact h n r c h1
theorem OA {t t2:Tag}{k:List (t.T×t2.T)→List SV→Option α}(h:∀ n l c,k n l=some c→G (.rm t t2 n::l) c):∀ l c,pM t t2 k l=some c→G l c:=fun l c hc=>by
 obtain⟨n,r,rfl,h1⟩:=H_ hc;exact h n r c h1
theorem aH {c0:α}(h:G [] c0):∀ l c,pE c0 l=some c→G l c:=fun l c hc=>by
 obtain⟨rfl,rfl⟩:=rR hc;exact h
end
section
universe u
variable {α:Type u}{G:List SV→α→Prop}
def apO:Option (List SV→Option α)→List SV→Option α
 |some q,r=>q r
 |none,_=>none
@[go_sem] theorem SP {q:List SV→Option α}{r:List SV}:apO (some q) r=q r:=(rfl)
@[go_sem] theorem SQ {r:List SV}:apO (α:=α) none r=none:=(rfl)
def pFn (f:Nat)(k:List SV→Option (List SV→Option α)):List SV→Option α
 | .fn g [] caps::r=>bif Nat.beq g f then apO (k caps) r else none
 |_=>none
def pXF (f:Nat)(k:List SV→Option (List SV→Option α)):List SV→Option α
 | .ep [.fn g [] caps] 0::r=>bif Nat.beq g f then apO (k caps) r else none
 |_=>none
@[go_sem] theorem Vv {f g:Nat}{k:List SV→Option (List SV→Option α)}{caps r:List SV}:pFn f k (.fn g [] caps::r)=bif Nat.beq g f then apO (k caps) r else none:=(rfl)
@[go_sem] theorem Vw {f g:Nat}{k:List SV→Option (List SV→Option α)}{caps r:List SV}:pXF f k (.ep [.fn g [] caps] 0::r)=bif Nat.beq g f then apO (k caps) r else none:=(rfl)
theorem Lt {o:Option (List SV→Option α)}{r:List SV}{c:α}(h:apO o r=some c):∃ q,o=some q∧q r=some c:=by
 cases o with
 |none=>cases h
 |some q=>exact⟨q,rfl,h⟩
theorem sP {f:Nat}{k:List SV→Option (List SV→Option α)}(h:∀ caps q,k caps=some q→∀ l c,q l=some c→G (.fn f [] caps::l) c):∀ l c,pFn f k l=some c→G l c:=fun l c hc=>by
 unfold pFn at hc;split at hc
 ·rename_i g caps r;cases hb:Nat.beq g f with
  |false=>rw[hb]at hc;cases hc
  |true=>
   rw[hb]at hc;obtain⟨q,h1,h2⟩:=Lt hc;have:=Nat.eq_of_beq_eq_true hb;subst this;exact h caps q h1 r c h2
 ·cases hc
def pFB (f:Nat)(k:List SV→Option (List SV→Option α)):List SV→Option α
 | .fn g caps []::r=>bif Nat.beq g f then apO (k caps) r else none
 |_=>none
def SR (f:Nat)(k:List SV→Option (List SV→Option α)):List SV→Option α
 | .ep [.fn g caps []] 0::r=>bif Nat.beq g f then apO (k caps) r else none
 |_=>none
@[go_sem] theorem Vx {f g:Nat}{k:List SV→Option (List SV→Option α)}{caps r:List SV}:pFB f k (.fn g caps []::r)=bif Nat.beq g f then apO (k caps) r else none:=(rfl)
@[go_sem] theorem UB {f g:Nat}{k:List SV→Option (List SV→Option α)}{caps r:List SV}:SR f k (.ep [.fn g caps []] 0::r)=bif Nat.beq g f then apO (k caps) r else none:=(rfl)
@[go_sem] theorem Vy {f g:Nat}{k:List SV→Option (List SV→Option α)}{b c r:List SV}{x:SV}:pFB f k (.fn g b (x::c)::r)=none:=(rfl)
@[go_sem] theorem UC {f g:Nat}{k:List SV→Option (List SV→Option α)}{b c r:List SV}{x:SV}:SR f k (.ep [.fn g b (x::c)] 0::r)=none:=(rfl)
@[go_sem] theorem Vz {f g:Nat}{k:List SV→Option (List SV→Option α)}{b c r:List SV}{x:SV}:pFn f k (.fn g (x::b) c::r)=none:=(rfl)
@[go_sem] theorem VA {f g:Nat}{k:List SV→Option (List SV→Option α)}{b c r:List SV}{x:SV}:pXF f k (.ep [.fn g (x::b) c] 0::r)=none:=(rfl)
end
def pXX {α:Type 1}(t:Tag)(k:t.T→List SV→Option α):List SV→Option α
 | .ep [s] 0::r=>pX t k (s::r)
 |_=>none
@[go_sem] theorem SS {α:Type 1}{t:Tag}{k:t.T→List SV→Option α}{s:SV}{r:List SV}:pXX t k (.ep [s] 0::r)=pX t k (s::r):=(rfl)
theorem Lu {α:Type 1}{G:List SV→α→Prop}{t:Tag}{k:List t.T→List SV→Option α}(h:∀ n l c,k n l=some c→G (.ep [.rs t n] 0::l) c):∀ l c,pXR t k l=some c→G l c:=fun l c hc=>by
 obtain⟨n,r,rfl,h1⟩:=Lr hc;exact h n r c h1
def DJ (k:Tag)(K:List k.T→Option HCon):List Ob→Option HCon
 | [.row k' l] =>if h:k'=k then K (h▸l)else none
 |_=>none
@[go_sem] theorem UD {k:Tag}{K:List k.T→Option HCon}{l:List k.T}:DJ k K [.row k l]=K l:=by simp[DJ]
theorem BP {k:Tag}{K:List k.T→Option HCon}{h:List Ob}{c:HCon}(hh:DJ k K h=some c):∃ l,h=[.row k l]∧K l=some c:=by
 unfold DJ at hh;split at hh
 ·split at hh
  ·rename_i e;subst e;exact⟨_,rfl,hh⟩
  ·cases hh
 ·cases hh
end Go.Sx
end
section
namespace Go.Sx
open Go.Proofs
open IntKind (i64 u64)
theorem czl {p:Prop}(h:p:=by first|(simp only[*,cond_true,cond_false,Bool.not_true,Bool.not_false,go_sem,Nat.reduceBEq,Nat.reduceLeDiff,Nat.reduceLT,decide_true,Nat.reduceAdd,Nat.reduceSub,Nat.reduceMul,Int.reduceLE,Int.reduceLT,Int.reduceToNat,Int.reduceNeg,reduceCtorEq];done) |fail):p:=h
theorem wZ {l0:List Nat}(a0:JL l0){p:Prop}(h:JL l0→p:=by intro ja;(first|done|(repeat' (first|with_reducible refine And.intro ?_ ?_|((with_reducible show _≠_);first|assumption|omega|(simp_all [eF,fc];done) |grind) |with_reducible intro _)) <;>(first|done|with_reducible exact Empty.elim ‹Empty› |with_reducible assumption|rfl|omega|assumption|decide|exact fk ja|exact czl|(simp only[*,cond_true,cond_false,Bool.not_true,Bool.not_false,go_sem,Nat.reduceBEq,Nat.reduceLeDiff,Nat.reduceLT,decide_true,Nat.reduceAdd,Nat.reduceSub,Nat.reduceMul,Int.reduceLE,Int.reduceLT,Int.reduceToNat,Int.reduceNeg,reduceCtorEq];(repeat' (first|with_reducible refine And.intro ?_ ?_|((with_reducible show _≠_);first|assumption|omega|(simp_all [eF,fc];done) |grind) |with_reducible intro _)) <;>(first|done|assumption|rfl|omega|decide|exact fk ja|(simp_all [eF,fc];done))) |(simp_all [okI,eF,fc];done) |(simp_all [eF,fc];(first|done|exact fk2 ja)) |exact fk2 ja))):p:=h a0
theorem ci {l0:List Nat}(a0:JL l0){p:Prop}(h:JL l0→p:=by intro ja;simp only[go_sem,Nat.reduceBEq,Nat.reduceLeDiff,Nat.reduceLT,decide_true,Nat.reduceAdd,Nat.reduceSub,Nat.reduceMul,Int.reduceLE,Int.reduceLT,Int.reduceToNat,Int.reduceNeg,reduceCtorEq,hc,hw];all_goals exact wZ ja):p:=h a0
theorem cj {l0:List Nat}(a0:JL l0){p:Prop}(h:JL l0→p:=by intro ja;simp only[go_sem,Nat.reduceBEq,Nat.reduceLeDiff,Nat.reduceLT,decide_true,Nat.reduceAdd,Nat.reduceSub,Nat.reduceMul,Int.reduceLE,Int.reduceLT,Int.reduceToNat,Int.reduceNeg,reduceCtorEq,hc];all_goals exact wZ ja):p:=h a0
def gu (x:Int):Bool:=false
@[go_sem] def oL:List SV→Option Con:=(pI fun x=>(pE (.det True (.v (.bool (gu x))))))
theorem zq1 {p:Prop}(h:p:=by simp only[go_sem,Nat.reduceBEq,Nat.reduceLeDiff,Nat.reduceLT,decide_true,Nat.reduceAdd,Nat.reduceSub,Nat.reduceMul,Int.reduceLE,Int.reduceLT,Int.reduceToNat,Int.reduceNeg,reduceCtorEq];all_goals exact cl):p:=h
theorem tZ:FnOk Tryz.prog 79 oL:=by
 have hG:ConsOk Tryz.prog (mkG [] []):=aw cg0 cg0;refine aZ [.o] mixed am hG (fn:=Tryz.f79) (c:=ae Tryz.f79) kr kr kr kr (b9 fun x=>(aH (fun hp=>?_)));dsimp only[aD]at hp;refine⟨nbl rfl,L0,ah _,?_⟩
 ·unfold ae Tryz.f79;try unfold gu
  exact zq1
def bX (x:Int)(y:Int):Int:=(bif(gu x)then(bif(gu y)then 0 else(-1))else(bif(gu y)then 1 else(bif(decide (x<y))then(-1)else(bif(decide (x > y))then 1 else 0))))
@[go_sem] def fl:List SV→Option Con:=(pI fun x=>(pI fun y=>(pE (.det True (.v (.int .i64 (bX x y)))))))
theorem fW:FnOk Tryz.prog 45 fl:=by
 have hG:ConsOk Tryz.prog (mkG [(79,oL)] []):=aw (cgc tZ cg0) cg0;refine aZ [.o] mixed am hG (fn:=Tryz.f45) (c:=ae Tryz.f45) kr kr kr kr (b9 fun x=>(b9 fun y=>(aH (fun hp=>?_))));dsimp only[aD]at hp;refine⟨nbl rfl,L0,ah _,?_⟩
 ·unfold ae Tryz.f45;try unfold bX
  exact zq1
def ak (n:Int):Int:=(bif(decide (n<0))then(u64.wrap (0 - (u64.wrap n)))else(u64.wrap n))
@[go_sem] def jx:List SV→Option Con:=(pI fun n=>(pE (.det True (.v (.int .u64 (ak n))))))
theorem mj:FnOk Tryz.prog 181 jx:=by
 have hG:ConsOk Tryz.prog (mkG [] []):=aw cg0 cg0;refine aZ [.o] mixed am hG (fn:=Tryz.f181) (c:=ae Tryz.f181) kr kr kr kr (b9 fun n=>(aH (fun hp=>?_)));dsimp only[aD]at hp;refine⟨nbl rfl,L0,ah _,?_⟩
 ·unfold ae Tryz.f181;try unfold ak
  exact zq1
def aR (a:Ratio):Int:=(bif(((((decide (a.d<1)) ||(decide (a.d > 1073741824))) ||(decide (a.n< (-1073741824)))) ||(decide (a.n > 1073741824))) ||(((qF (Int.toNat (ak a.n)) (Int.toNat (u64.wrap a.d)):Nat):Int) !=1))then 120 else 0)
def qV (a:Ratio):Prop:=(((((decide (a.d<1)) ||(decide (a.d > 1073741824))) ||(decide (a.n< (-1073741824)))) ||(decide (a.n > 1073741824)))=false→(0≤(ak a.n)∧0≤(u64.wrap a.d)))
theorem w5 (n:Int):0≤u64.wrap n:=by
 simp[IntKind.wrap,IntKind.bits,IntKind.signed];omega
theorem t6 (n:Int):0≤ak n:=by
 unfold ak;cases decide (n<0) <;>exact w5 _
theorem w6 (a:Ratio):qV a:=fun _=>⟨t6 _,w5 _⟩
@[go_sem] def ko:List SV→Option Con:=(pD .ratio fun a=>(pE (.det True (.v (.int .i64 (aR a))))))
theorem zq4 {p:Prop}(h:p:=by simp only[go_sem,Nat.reduceBEq,Nat.reduceLeDiff,Nat.reduceLT,decide_true,Nat.reduceAdd,Nat.reduceSub,Nat.reduceMul,Int.reduceLE,Int.reduceLT,Int.reduceToNat,Int.reduceNeg,reduceCtorEq,C83];all_goals exact cl):p:=h
theorem ml:FnOk Tryz.prog 165 ko:=by
 have hG:ConsOk Tryz.prog (mkG [(180,C83),(181,jx)] []):=aw (cgc IC (cgc mj cg0)) cg0;refine aZ [.o] mixed am hG (fn:=Tryz.f165) (c:=ae Tryz.f165) kr kr kr kr (a7 fun a=>(aH (fun hp=>?_)));dsimp only[aD]at hp;have hp:=w6 a;unfold qV at hp;refine⟨nbl rfl,L0,ah _,?_⟩
 ·unfold ae Tryz.f165;try unfold aR
  exact zq4
def j5 (a:Ratio)(b:Ratio):Int×Int:=(bif(((aR a) !=0) ||((aR b) !=0))then(0,120)else((bX (i64.wrap (a.n*b.d)) (i64.wrap (b.n*a.d))),0))
@[go_sem] def uF:List SV→Option Con:=(pD .ratio fun a=>(pD .ratio fun b=>(pE (.det True (.tup [.v (.int .i64 ((j5 a b).1)),.v (.int .i64 ((j5 a b).2))])))))
theorem Aj:FnOk Tryz.prog 163 uF:=by
 have hG:ConsOk Tryz.prog (mkG [(45,fl),(165,ko)] []):=aw (cgc fW (cgc ml cg0)) cg0;refine aZ [.o,.o] mixed am hG (fn:=Tryz.f163) (c:=ae Tryz.f163) kr kr kr kr (a7 fun a=>(a7 fun b=>(aH (fun hp=>?_))));dsimp only[aD]at hp;refine⟨nbl rfl,L0,ah _,?_⟩
 ·unfold ae Tryz.f163;try unfold j5
  exact zq1
def yc (ok:Bool)(e:Int):Unit:=(bif(!ok)then default else())
def ce (ok:Bool)(e:Int):Bool:=(bif(!ok)then false else true)
@[go_sem] def ld:List SV→Option Con:=(pB fun ok=>(pI fun e=>(pE (.may (ce ok e) (.tup []) (.iface 170 (.int .i64 e))))))
theorem nN:FnOk Tryz.prog 65 ld:=by
 have hG:ConsOk Tryz.prog (mkG [] []):=aw cg0 cg0;refine aZ [] mixed am hG (fn:=Tryz.f65) (c:=ae Tryz.f65) kr kr kr kr (Oz fun ok=>(b9 fun e=>(aH (fun hp=>?_))));dsimp only[aD]at hp;refine⟨nbl rfl,L0,ah _,?_⟩
 ·unfold ae Tryz.f65;try unfold yc
  try unfold ce
  exact zq1
@[go_sem] def bD (l_:List Int)(k_0:Nat)(s_0:Unit):Unit⊕Unit:=(bif(decide ((l_.getD (Int.toNat ((k_0:Int)+1)) (0:Int)) < (l_.getD (Int.toNat (i64.wrap (((k_0:Int)+1) - 1))) (0:Int))))then .inl ()else .inr ())
def fX (l_:List Int)(k_0:Nat)(s_0:Unit):Prop:=(l_.length≤bo→((0≤((k_0:Int)+1)∧((k_0:Int)+1) < (l_.length:Int))∧(0≤(i64.wrap (((k_0:Int)+1) - 1))∧(i64.wrap (((k_0:Int)+1) - 1)) < (l_.length:Int))))
def ap (l_:List Int):Bool:=(match aq (bD l_) (l_.length - 1) 0 ()with| .inl x_0_0=>false| .inr s_0=>true)
def oM (l_:List Int):Prop:=okI (bD l_) (fX l_) (l_.length - 1) 0 ()
theorem t7 (l_:List Int):oM l_:=mN _ _ _ fun j s h1 h2 hm=>by
 unfold bo at hm;rw[bt (by omega) (by omega)];omega
@[go_sem] def iS:List SV→Option Con:=(pR .int fun l_=>(pE (.det True (.v (.bool (ap l_))))))
theorem zq7 {p:Prop}(h:p:=by simp only[go_sem,Nat.reduceBEq,Nat.reduceLeDiff,Nat.reduceLT,decide_true,Nat.reduceAdd,Nat.reduceSub,Nat.reduceMul,Int.reduceLE,Int.reduceLT,Int.reduceToNat,Int.reduceNeg,reduceCtorEq,hb0]):p:=h
theorem zq8 {p:Prop}(h:p:=by simp only[go_sem,Nat.reduceBEq,Nat.reduceLeDiff,Nat.reduceLT,decide_true,Nat.reduceAdd,Nat.reduceSub,Nat.reduceMul,Int.reduceLE,Int.reduceLT,Int.reduceToNat,Int.reduceNeg,reduceCtorEq,bD,hc0,hw0];all_goals exact cl):p:=h
theorem zq9 {p:Prop}(h:p:=by simp only[go_sem,Nat.reduceBEq,Nat.reduceLeDiff,Nat.reduceLT,decide_true,Nat.reduceAdd,Nat.reduceSub,Nat.reduceMul,Int.reduceLE,Int.reduceLT,Int.reduceToNat,Int.reduceNeg,reduceCtorEq,hc0];all_goals exact cl2):p:=h
theorem j6:FnOk Tryz.prog 95 iS:=by
 have hG:ConsOk Tryz.prog (mkG [] []):=aw cg0 cg0;refine aZ [.o] mixed am hG (fn:=Tryz.f95) (c:=ae Tryz.f95) kr kr kr kr (dY fun l_=>(aH (fun hp=>?_)));dsimp only[aD]at hp;have hp:=t7 l_;unfold oM at hp;refine⟨nbl rfl,(fun id st=>bif Nat.beq id 0 then some (LC (ρ:=Unit) (σ:=Unit) (lk 0 st.t=.rs .int l_∧lk 3 st.t=.v (.int .i64 1)∧st.h=[]∧okI (bD l_) (fX l_) (l_.length - 1) 0 ()) (aq (bD l_) (l_.length - 1) 0 ()) (fun _=>.ret) (fun x_0_0=>⟨[(2,.v (.bool false))],[]⟩) (fun s_0=>⟨[],[]⟩))else none),?_,?_⟩
 ·unfold ae Tryz.f95;simp only[al,true_and,and_true]
  ·refine Gk mixed am hG kr fun st lc hC hp=>?_;simp only[go_sem,Nat.reduceBEq,Option.some.injEq]at hC;subst hC;obtain⟨t,h⟩:=st;dsimp only[LC]at hp;obtain⟨e0_0,e0_1,rfl,hok0⟩:=hp;refine⟨_,_,_,(bD l_),(fX l_),(l_.length - 1),(),_,_,_,(fun k_0 s_0=>⟨[(0,.rs .int l_),(3,.v (.int .i64 ((k_0:Int)+1)))],[]⟩),[],rfl,hok0,Nat.le_refl _,?_,fun k_0 s_0 hk0 hp0=>?_⟩
   ·simp only[go_sem,Nat.reduceBEq,Nat.reduceLeDiff,Nat.reduceLT,decide_true,Nat.reduceAdd,Nat.reduceSub,Nat.reduceMul,Int.reduceLE,Int.reduceLT,Int.reduceToNat,Int.reduceNeg,reduceCtorEq,e0_0,e0_1];all_goals (first|done|decide|(repeat' (first|refine And.intro ?_ ?_|rfl|decide)))
   refine⟨L0,?_,?_⟩
   ·simp only[al,and_self,true_and,and_true]
   ·by_cases hb0:l_.length≤bo
    rotate_left
    ·exact zq7
    ·by_cases hlt0:k_0< (l_.length - 1)
     ·have hw0:i64.wrap (((k_0:Nat):Int)+1+1)=((k_0+1:Nat):Int)+1:=by(have hbb:=hb0;have hll:=hlt0;try unfold bo at hbb);rw[bt (by omega) (by omega)];omega
      have hq0:=hp0 hlt0;unfold fX at hq0
      replace hq0:=hq0 hb0
      try simp only[hw0,Int.toNat_natCast]at hq0
      have hc0:decide (((k_0:Int)+1) < (l_.length:Int))=true:=by simp only[decide_eq_true_eq];omega
      exact zq8
     ·have hc0:decide (((k_0:Int)+1) < (l_.length:Int))=false:=by simp only[decide_eq_false_iff_not];omega
      exact zq9
 ·unfold ae Tryz.f95;try unfold ap
  exact zq1
def bJ (i:Int)(n:Int):Bool:=((decide (i≥0))&&(decide (i<n)))
@[go_sem] def jy:List SV→Option Con:=(pI fun i=>(pI fun n=>(pE (.det True (.v (.bool (bJ i n)))))))
theorem lg:FnOk Tryz.prog 97 jy:=by
 have hG:ConsOk Tryz.prog (mkG [] []):=aw cg0 cg0;refine aZ [.o] mixed am hG (fn:=Tryz.f97) (c:=ae Tryz.f97) kr kr kr kr (b9 fun i=>(b9 fun n=>(aH (fun hp=>?_))));dsimp only[aD]at hp;refine⟨nbl rfl,L0,ah _,?_⟩
 ·unfold ae Tryz.f97;try unfold bJ
  exact zq1
def ig (x:Ratio×Ratio):Bool:=(((((j5 x.1 x.2).2==0)&&(decide (x.1.n≥0)))&&(decide ((j5 x.1 x.2).1≤0)))&&(decide (x.2.n≤x.2.d)))
@[go_sem] def pr:List SV→Option Con:=(pD .ratio2 fun x=>(pE (.det True (.v (.bool (ig x))))))
theorem u5:FnOk Tryz.prog 136 pr:=by
 have hG:ConsOk Tryz.prog (mkG [(163,uF)] []):=aw (cgc Aj cg0) cg0;refine aZ [.o] mixed am hG (fn:=Tryz.f136) (c:=ae Tryz.f136) kr kr kr kr (a7 fun x=>(aH (fun hp=>?_)));dsimp only[aD]at hp;refine⟨nbl rfl,L0,ah _,?_⟩
 ·unfold ae Tryz.f136;try unfold ig
  exact zq1
def fY (i:Int)(x:Reach):Bool:=(bif(decide (i > 0))then((((((bJ x.up i)&&(ap ([1,x.delay,16])))&&(ap ([0,x.siphon,x.cap,1073741824])))&&(ap ([0,x.siphon,x.bank,1099511627776])))&&(ap ([0,x.evap.lo,x.evap.hi,1073741824])))&&(ig x.seep))else((((((x.up==(-1))&&(ap ([1,x.delay,16])))&&(ap ([0,x.siphon,x.cap,1073741824])))&&(ap ([0,x.siphon,x.bank,1099511627776])))&&(ap ([0,x.evap.lo,x.evap.hi,1073741824])))&&(ig x.seep)))
@[go_sem] def pt:List SV→Option Con:=(pI fun i=>(pD .reach fun x=>(pE (.det True (.v (.bool (fY i x)))))))
theorem u6:FnOk Tryz.prog 96 pt:=by
 have hG:ConsOk Tryz.prog (mkG [(95,fun l=>iS (dh [.sl .int] l)),(97,jy),(136,pr)] []):=aw (cgc (j6.norm [.sl .int]) (cgc lg (cgc u5 cg0))) cg0;refine aZ [.o] mixed am hG (fn:=Tryz.f96) (c:=ae Tryz.f96) kr kr kr kr (b9 fun i=>(a7 fun x=>(aH (fun hp=>?_))));dsimp only[aD]at hp;refine⟨nbl rfl,L0,ah _,?_⟩
 ·unfold ae Tryz.f96;try unfold fY
  exact zq1
def eJ (a0:District)(a1:Right):Bool:=(bif(((!(bJ a1.farm (a0.farms.length:Int))) ||(!(bJ a1.reach (a0.reaches.length:Int)))) ||(!(ap ([0,a1.since,a1.to,(i64.wrap (a0.hours - 1))]))))then false else(bif(a1.kind==1)then((((a1.reach==0)&&(ap ([0,a1.rank,1048576])))&&(ap ([1,a1.litres,1073741824])))&&(ap ([1,a1.length,a1.every,a0.hours])))else(bif(a1.kind==2)then((a1.name==a1.name)&&((a1.kind==a1.kind)&&((a1.farm==a1.farm)&&((a1.reach==a1.reach)&&((a1.rank==0)&&((a1.litres==0)&&((a1.since==0)&&((a1.to==(i64.wrap (a0.hours - 1)))&&((a1.every==0)&&(a1.length==0))))))))))else(bif(a1.kind==3)then((a1.name==a1.name)&&((a1.kind==a1.kind)&&((a1.farm==a1.farm)&&((a1.reach==a1.reach)&&((a1.rank==0)&&((a1.litres==0)&&((a1.since==a1.since)&&((a1.to==a1.to)&&((a1.every==0)&&(a1.length==0))))))))))else false))))
@[go_sem] def pu:List SV→Option Con:=(pD .district fun a0=>(pD .right fun a1=>(pE (.det True (.v (.bool (eJ a0 a1)))))))
theorem u7:FnOk Tryz.prog 98 pu:=by
 have hG:ConsOk Tryz.prog (mkG [(95,fun l=>iS (dh [.sl .int] l)),(97,jy)] []):=aw (cgc (j6.norm [.sl .int]) (cgc lg cg0)) cg0;refine aZ [.o] mixed am hG (fn:=Tryz.f98) (c:=ae Tryz.f98) kr kr kr kr (a7 fun a0=>(a7 fun a1=>(aH (fun hp=>?_))));dsimp only[aD]at hp;refine⟨nbl rfl,L0,ah _,?_⟩
 ·unfold ae Tryz.f98;try unfold eJ
  exact zq1
@[go_sem] def ew (a0:District)(a1:Int)(k_0:Nat)(s_0:Unit):Unit⊕Unit:=(bif(ce (fY (k_0:Int) (a0.reaches.getD k_0 (default:Reach))) a1)then .inr ()else .inl ())
@[go_sem] def fm (a0:District)(a1:Int)(k_1:Nat)(s_1:Unit):Unit⊕Unit:=(bif(ce (ap ([0,(a0.crops.getD k_1 (default:Crop)).need,1048576])) a1)then .inr ()else .inl ())
@[go_sem] def ez (a0:District)(a1:Int)(k_2:Nat)(s_2:Unit):Unit⊕Unit:=(bif(decide ((a0.farms.getD k_2 (default:Farm)).area > 0))then(bif(ce (((bJ ((a0.farms.getD k_2 (default:Farm)).crop) (a0.crops.length:Int))&&(bJ ((a0.farms.getD k_2 (default:Farm)).reach) (a0.reaches.length:Int)))&&(ap ([0,(a0.farms.getD k_2 (default:Farm)).area,1048576]))) a1)then .inr ()else .inl ())else(bif(ce ((((a0.farms.getD k_2 (default:Farm)).crop==(-1))&&(bJ ((a0.farms.getD k_2 (default:Farm)).reach) (a0.reaches.length:Int)))&&(ap ([0,(a0.farms.getD k_2 (default:Farm)).area,1048576]))) a1)then .inr ()else .inl ()))
@[go_sem] def dP (a0:District)(a1:Int)(k_3:Nat)(s_3:Unit):Unit⊕Unit:=(bif(ce (eJ a0 (a0.rights.getD k_3 (default:Right))) a1)then .inr ()else .inl ())
@[go_sem] def fo (a0:District)(a1:Int)(k_4:Nat)(s_4:Unit):Unit⊕Unit:=(bif(ce (((bJ ((a0.duties.getD k_4 (default:Duty)).farm) (a0.farms.length:Int))&&(bJ ((a0.duties.getD k_4 (default:Duty)).reach) (a0.reaches.length:Int)))&&(ap ([0,(a0.duties.getD k_4 (default:Duty)).due,a0.hours]))) a1)then .inr ()else .inl ())
def w7 (a0:District)(a1:Int):Unit:=(bif(ce (((ap ([1,a0.hours,4096]))&&(ap ([0,a0.tank.start,a0.tank.cap,1099511627776])))&&(decide ((a0.reaches.length:Int) > 0))) a1)then(match aq (ew a0 a1) a0.reaches.length 0 ()with| .inl x_0_0=>default| .inr s_0=>(match aq (fm a0 a1) a0.crops.length 0 ()with| .inl x_1_0=>default| .inr s_1=>(match aq (ez a0 a1) a0.farms.length 0 ()with| .inl x_2_0=>default| .inr s_2=>(match aq (dP a0 a1) a0.rights.length 0 ()with| .inl x_3_0=>default| .inr s_3=>(match aq (fo a0 a1) a0.duties.length 0 ()with| .inl x_4_0=>default| .inr s_4=>())))))else default)
def dv (a0:District)(a1:Int):Bool:=(bif(ce (((ap ([1,a0.hours,4096]))&&(ap ([0,a0.tank.start,a0.tank.cap,1099511627776])))&&(decide ((a0.reaches.length:Int) > 0))) a1)then(match aq (ew a0 a1) a0.reaches.length 0 ()with| .inl x_0_0=>false| .inr s_0=>(match aq (fm a0 a1) a0.crops.length 0 ()with| .inl x_1_0=>false| .inr s_1=>(match aq (ez a0 a1) a0.farms.length 0 ()with| .inl x_2_0=>false| .inr s_2=>(match aq (dP a0 a1) a0.rights.length 0 ()with| .inl x_3_0=>false| .inr s_3=>(match aq (fo a0 a1) a0.duties.length 0 ()with| .inl x_4_0=>false| .inr s_4=>true)))))else false)
@[go_sem] def nO:List SV→Option Con:=(pD .district fun a0=>(pI fun a1=>(pE (.may (dv a0 a1) (.tup []) (.iface 170 (.int .i64 a1))))))
theorem sQ:FnOk Tryz.prog 66 nO:=by
 have hG:ConsOk Tryz.prog (mkG [(65,ld),(95,fun l=>iS (dh [.sl .int] l)),(96,pt),(97,jy),(98,fun l=>pu (dh [.st .district,.st .right] l))] []):=aw (cgc nN (cgc (j6.norm [.sl .int]) (cgc u6 (cgc lg (cgc (u7.norm [.st .district,.st .right]) cg0))))) cg0;refine aZ [] mixed am hG (fn:=Tryz.f66) (c:=ae Tryz.f66) kr kr kr kr (a7 fun a0=>(b9 fun a1=>(aH (fun hp=>?_))));dsimp only[aD]at hp;refine⟨nbl rfl,(fun id st=>bif Nat.beq id 0 then some (LCR (ρ:=Unit) (σ:=Unit) 1 [] [0] (fun k_0 s_0=>⟨[(1,.v (.int .i64 a1)),(2,.ptr 0 0),(38,.rs .reach a0.reaches),(39,.v (.int .i64 (a0.reaches.length:Int))),(40,.v (.int .i64 (k_0:Int)))],[.cells (cellsOf .district a0)]⟩) (ew a0 a1) pT a0.reaches.length () (a0.reaches.length≤bo) (fun _=>.pan (.iface 170 (.int .i64 a1))) (fun x_0_0=>⟨[],[.dead]⟩) st)else bif Nat.beq id 2 then some (LCR (ρ:=Unit) (σ:=Unit) 1 [] [0] (fun k_1 s_1=>⟨[(1,.v (.int .i64 a1)),(2,.ptr 0 0),(52,.rs .crop a0.crops),(53,.v (.int .i64 (a0.crops.length:Int))),(54,.v (.int .i64 (k_1:Int)))],[.cells (cellsOf .district a0)]⟩) (fm a0 a1) pT a0.crops.length () (a0.crops.length≤bo) (fun _=>.pan (.iface 170 (.int .i64 a1))) (fun x_1_0=>⟨[],[.dead]⟩) st)else bif Nat.beq id 4 then some (LCR (ρ:=Unit) (σ:=Unit) 1 [] [0] (fun k_2 s_2=>⟨[(1,.v (.int .i64 a1)),(2,.ptr 0 0),(66,.rs .farm a0.farms),(67,.v (.int .i64 (a0.farms.length:Int))),(68,.v (.int .i64 (k_2:Int)))],[.cells (cellsOf .district a0)]⟩) (ez a0 a1) pT a0.farms.length () (a0.farms.length≤bo) (fun _=>.pan (.iface 170 (.int .i64 a1))) (fun x_2_0=>⟨[],[.dead]⟩) st)else bif Nat.beq id 6 then some (LCR (ρ:=Unit) (σ:=Unit) 1 [] [0] (fun k_3 s_3=>⟨[(1,.v (.int .i64 a1)),(2,.ptr 0 0),(103,.rs .right a0.rights),(104,.v (.int .i64 (a0.rights.length:Int))),(105,.v (.int .i64 (k_3:Int)))],[.cells (cellsOf .district a0)]⟩) (dP a0 a1) pT a0.rights.length () (a0.rights.length≤bo) (fun _=>.pan (.iface 170 (.int .i64 a1))) (fun x_3_0=>⟨[],[.dead]⟩) st)else bif Nat.beq id 8 then some (LCR (ρ:=Unit) (σ:=Unit) 1 [] [0] (fun k_4 s_4=>⟨[(1,.v (.int .i64 a1)),(2,.ptr 0 0),(116,.rs .duty a0.duties),(117,.v (.int .i64 (a0.duties.length:Int))),(118,.v (.int .i64 (k_4:Int)))],[.cells (cellsOf .district a0)]⟩) (fo a0 a1) pT a0.duties.length () (a0.duties.length≤bo) (fun _=>.pan (.iface 170 (.int .i64 a1))) (fun x_4_0=>⟨[],[.dead]⟩) st)else none),?_,?_⟩
 ·unfold ae Tryz.f66;simp only[al,true_and,and_true];refine⟨?_,?_,?_,?_,?_⟩
  ·refine c5 mixed am hG kr (fun _=>rfl) (a0.reaches.length:Int) rfl iw (fun hb0 k_0 s_0 hlt0 _ hw hc=>⟨L0,ah _,?_⟩) (fun hb0 s_0 hc=>?_)
   ·exact ci (jl [0])
   ·exact cj (jl [0])
  ·refine c5 mixed am hG kr (fun _=>rfl) (a0.crops.length:Int) rfl iw (fun hb1 k_1 s_1 hlt1 _ hw hc=>⟨L0,ah _,?_⟩) (fun hb1 s_1 hc=>?_)
   ·exact ci (jl [0])
   ·exact cj (jl [0])
  ·refine c5 mixed am hG kr (fun _=>rfl) (a0.farms.length:Int) rfl iw (fun hb2 k_2 s_2 hlt2 _ hw hc=>⟨L0,ah _,?_⟩) (fun hb2 s_2 hc=>?_)
   ·exact ci (jl [0])
   ·exact cj (jl [0])
  ·refine c5 mixed am hG kr (fun _=>rfl) (a0.rights.length:Int) rfl iw (fun hb3 k_3 s_3 hlt3 _ hw hc=>⟨L0,ah _,?_⟩) (fun hb3 s_3 hc=>?_)
   ·exact ci (jl [0])
   ·exact cj (jl [0])
  ·refine c5 mixed am hG kr (fun _=>rfl) (a0.duties.length:Int) rfl iw (fun hb4 k_4 s_4 hlt4 _ hw hc=>⟨L0,ah _,?_⟩) (fun hb4 s_4 hc=>?_)
   ·exact ci (jl [0])
   ·exact cj (jl [0])
 ·unfold ae Tryz.f66;try unfold w7
  try unfold dv
  exact zq1
def aC (d:District):Int:=(bif(ce (((((decide ((d.reaches.length:Int)≤64))&&(decide ((d.farms.length:Int)≤600)))&&(decide ((d.crops.length:Int)≤32)))&&(decide ((d.rights.length:Int)≤256)))&&(decide ((d.duties.length:Int)≤256))) 2)then(bif(dv d 191)then 0 else 191)else 2)
@[go_sem] def jz:List SV→Option Con:=(pD .district fun d=>(pE (.det True (.v (.int .i64 (aC d))))))
theorem zq16 {p:Prop}(h:p:=by simp only[go_sem,Nat.reduceBEq,Nat.reduceLeDiff,Nat.reduceLT,decide_true,Nat.reduceAdd,Nat.reduceSub,Nat.reduceMul,Int.reduceLE,Int.reduceLT,Int.reduceToNat,Int.reduceNeg,reduceCtorEq,Gm,DH,Oq];all_goals exact cl):p:=h
theorem lh:FnOk Tryz.prog 34 jz:=by
 have hG:ConsOk Tryz.prog (mkG [(65,ld),(66,fun l=>nO (dh [.st .district,.o] l))] []):=aw (cgc nN (cgc (sQ.norm [.st .district,.o]) cg0)) cg0;refine Ol Iy [.o] mixed am hG (fn:=Tryz.f34) (c0:=Gm (ae Tryz.f34)) (c1:=DH (DH (ae Tryz.f34))) (i1:=regI (Gm (DH (ae Tryz.f34)))) (o1:=SA 0 (Gm (DH (ae Tryz.f34)))) (o2:=SA 1 (Gm (DH (ae Tryz.f34)))) (t3:=3) (q:=2) (tys:= #[]) kr kr kr (by refine⟨?_,?_,?_⟩ <;>kernel_rfl) (by refine⟨?_,?_,?_⟩ <;>kernel_rfl) (nbl rfl) kr kr (a7 fun d=>(aH (fun hp=>?_)));dsimp only[aD]at hp;refine⟨nbl rfl,L0,L0,1,?_,?_,?_⟩
 ·unfold ae Tryz.f34;simp only[Gm,al,and_self,true_and,and_true]
 ·unfold ae Tryz.f34;simp only[DH];simp only[al,and_self,true_and,and_true]
 ·unfold ae Tryz.f34;try unfold aC
  exact zq16
end Go.Sx
end
section
namespace Go.Sx
open Go.RowKit
def orC {α:Type 1}:Option α→Option α→Option α
 |some x,_=>some x
 |none,y=>y
@[go_sem] theorem SU {α:Type 1}{x:α}{y:Option α}:orC (some x) y=some x:=(rfl)
@[go_sem] theorem SW {α:Type 1}{y:Option α}:orC none y=y:=(rfl)
theorem qs {α:Type 1}{a b:Option α}{c:α}(h:orC a b=some c):a=some c∨b=some c:=by
 cases a with
 |none=>exact .inr h
 |some x=>exact .inl h
theorem FnOkO.or {P:Program}{f:FuncId}{C D:List SV→List Ob→Option HCon}(h1:FnOkO P f C)(h2:FnOkO P f D):FnOkO P f (fun l h=>orC (C l h) (D l h)):=
 ⟨fun l h c hc=>by rcases qs hc with e|e;exact h1.enter l h c e;exact h2.enter l h c e,
  fun l h c hc=>by rcases qs hc with e|e;exact h1.calls l h c e;exact h2.calls l h c e⟩
theorem FnOk.or {P:Program}{f:FuncId}{C D:List SV→Option Con}(h1:FnOk P f C)(h2:FnOk P f D):FnOk P f (fun l=>orC (C l) (D l)):=
 ⟨fun l c hc=>by rcases qs hc with e|e;exact h1.enter l c e;exact h2.enter l c e,
  fun l c hc=>by rcases qs hc with e|e;exact h1.calls l c e;exact h2.calls l c e⟩
def Gp (k:Tag)(i:Nat)(t:List (Nat×SV))(h:List Ob):SV→St
 | .v (.slice none 0 0) =>⟨(i,.os h.length)::t,h++[.row k []]⟩
 |_=>⟨t,h⟩
def II (k:Tag)(id off:Nat)(t:List (Nat×SV))(h:List Ob)(l:List SV):Option SV→St
 |some (.v (.slice none 0 0)) =>⟨t,bw h id (.cells (l.set off (.os h.length)))++[.row k []]⟩
 |_=>⟨t,h⟩
def Lv (k:Tag)(id off:Nat)(t:List (Nat×SV))(h:List Ob):Ob→St
 | .cells l=>II k id off t h l (nth l off)
 |_=>⟨t,h⟩
def IJ (k:Tag)(t:List (Nat×SV))(h:List Ob):SV→St
 | .ptr id off=>Lv k id off t h (ag h id)
 |_=>⟨t,h⟩
def BQ (k:Tag):ResultVar→List (Nat×SV)→List Ob→St
 | .tmp i,t,h=>Gp k i t h (lk i t)
 | .cell i _,t,h=>IJ k t h (lk i t)
def w8:List (ResultVar×Tag)→St→St
 | [],st=>st
 |x::r,st=>w8 r (BQ x.2 x.1 st.t st.h)
theorem Lw (k:Tag)(r:ResultVar)(st:St):NilS st (BQ k r st.t st.h):=by
 obtain⟨t,h⟩:=st;cases r with
 |tmp i=>
  show NilS _ (Gp k i t h (lk i t));unfold Gp;split
  ·rename_i e;exact .slot _ (.refl _) e (.inl ⟨_,rfl⟩)
  ·exact .refl _
 |cell i _=>
  show NilS _ (IJ k t h (lk i t));unfold IJ;split
  ·unfold Lv;split
   ·rename_i e;unfold II;split
    ·rename_i e2;exact .cell _ (.refl _) e (by rw[←dN];exact e2) (.inl ⟨_,rfl⟩)
    ·exact .refl _
   ·exact .refl _
  ·exact .refl _
theorem NilS.trans {a b c:St}(h1:NilS a b)(h2:NilS b c):NilS a c:=by
 induction h2 with
 |refl=>exact h1
 |cell o _ e1 e2 ho ih=>exact .cell o ih e1 e2 ho
 |slot o _ e1 ho ih=>exact .slot o ih e1 ho
 |slotE k _ e1 ih=>exact .slotE k ih e1
theorem OB (l:List (ResultVar×Tag)):∀ st,NilS st (w8 l st):=by
 induction l with
 |nil=>exact fun st=>.refl _
 |cons x r ih=>exact fun st=>(Lw x.2 x.1 st).trans (ih _)
def E6 (l:List (ResultVar×Tag))(rs:List ResultVar)(ts:Tis)(post:SV→Prop)(pp:Value→Prop):Ex→St→Prop
 | .exit _,_=>False
 | .normal,st=>dp post (rH true rs ts (w8 l st))
 | .ret,st=>dp post (rH true rs ts (w8 l st))
 | .pan x,_=>pp x
section
variable {l:List (ResultVar×Tag)}{rs:List ResultVar}{ts:Tis}{post:SV→Prop}{pp:Value→Prop}{st:St}{k:Tag}{i id off:Nat}{t:List (Nat×SV)}{h:List Ob}{m:List SV}
@[go_sem] theorem QW:E6 l rs ts post pp .ret st=dp post (rH true rs ts (w8 l st)):=(rfl)
@[go_sem] theorem Lx:E6 l rs ts post pp .normal st=dp post (rH true rs ts (w8 l st)):=(rfl)
@[go_sem] theorem QX {x:Value}:E6 l rs ts post pp (.pan x) st=pp x:=(rfl)
@[go_sem] theorem SX:w8 [] st=st:=(rfl)
@[go_sem] theorem QY {r:ResultVar}:w8 ((r,k)::l) ⟨t,h⟩=w8 l (BQ k r t h):=(rfl)
@[go_sem] theorem QZ:BQ k (.tmp i) t h=Gp k i t h (lk i t):=(rfl)
@[go_sem] theorem OC {ty:TypeId}:BQ k (.cell i ty) t h=IJ k t h (lk i t):=(rfl)
@[go_sem] theorem SY:Gp k i t h (.v (.slice none 0 0))=⟨(i,.os h.length)::t,h++[.row k []]⟩:=(rfl)
@[go_sem] theorem UE:Gp k i t h (.os id)=⟨t,h⟩:=(rfl)
@[go_sem] theorem SZ:IJ k t h (.ptr id off)=Lv k id off t h (ag h id):=(rfl)
@[go_sem] theorem OD:Lv k id off t h (.cells m)=II k id off t h m (nth m off):=(rfl)
@[go_sem] theorem S0:II k id off t h m (some (.v (.slice none 0 0)))=⟨t,bw h id (.cells (m.set off (.os h.length)))++[.row k []]⟩:=(rfl)
@[go_sem] theorem UF:II k id off t h m (some (.os i))=⟨t,h⟩:=(rfl)
attribute [go_sem] List.set_cons_zero
end
section
variable {P:Program}{ts:Tis}{G:Cons}
theorem ov (l:List (ResultVar×Tag)) (hm:P.follows .mixedOrders=true) (hts:ts.ok P) (hG:ConsOk P G) {f:FuncId} {fn:Func} {c:Code} (hf:P.funcs[f]? =some fn) (hb:fn.body=some c) (hname:(fn.name== "runtime.NumGoroutine")=false)
  (hc:cb fn.ntmps c=true) {C:List SV→Option Con}
  (h:∀ l0 con,C l0=some con→aD con→l0.length≤fn.ntmps∧∃ L,al P none fn.ntmps L c∧exec ts G L c ⟨jn 0 l0,[]⟩ (E6 l fn.results.toList ts (cT con) (iW con))):FnOk P f C:=by
 refine⟨fun l con _ args w=>?_,fun l0 con hcon hpre F w vs hF hvs=>?_⟩
 ·have hn:¬fn.name= "runtime.NumGoroutine":=by simpa using hname
  simp[callFunc,hf,hn,hb]
 ·obtain⟨hlen,L,hl,hx⟩:=h l0 con hcon hpre;refine mf (n:=0) (callsIn_of_wp_marks hf hb trivial ?_);have hr:StRel F { w:=w,own:=cg} fn.ntmps cg ⟨jn 0 l0,[]⟩ { tmps:=vs++Array.replicate (fn.ntmps - vs.size) undef,defers:=[]} w:=
   ⟨by have:=hvs.1;simp;omega,Dfr.nil,sL hF,Fr.refl _,fun t=>kL hvs _ t⟩
  refine wpIn_mono (lI hm hts hG c hc hl F _ _ hx cg _ w hr) ?_;intro e a' w' hq;have key:∀ F1 own st,(∀ b,F b→F1 b)→StRel F1 { w:=w,own:=cg} fn.ntmps own st a' w'→dp (cT con) (rH true fn.results.toList ts (w8 l st))→LeavesInM (rd none) 0 P fn a'.tmps
    (fun e w'=>(∃ s u own',cT con s∧e=.returned u∧Handed F w own' w' s u∧Below w.heap.size w w')∨(∃ x,iW con x∧e=.panicked [{ v:=x,recovered:=false}]∧Below w.heap.size w w')) a'.defers .returning w':=by
   intro F1 own0' st0 hF1 hst0 hdone;obtain⟨own,hst⟩:=(OB l st0).rel hst0;generalize w8 l st0=st at hst hdone;refine iG hst (by simp) fun w2 hst2=>?_;have hst3:=hst2.less hF1 rfl;unfold rH at hdone;cases hs:lF (jU ts st fn.results.toList)with
   |none=>
    simp only[cond_true,FI]at hdone;rw[hs]at hdone;exact hdone.elim
   |some s=>
    obtain⟨u,e1,e2⟩:=sK (P:=P) hts hst3 hs;refine⟨u,e1,.inl ?_⟩;simp only[cond_true,FI]at hdone;rw[hs]at hdone;change dp (cT con) (ux st.h s)at hdone;cases hg:ux st.h s with
    |none=>rw[hg]at hdone;exact hdone.elim
    |some s2=>
     rw[hg]at hdone;obtain⟨own',hh⟩:=EH hst3 e2 hg;exact⟨_,u,own',hdone,rfl,hh,kK hst3.fr⟩
  cases e with
  |normal=>obtain⟨F1,own,st,h0,h1,h2⟩:=hq;exact key F1 own st h0 h1 h2
  |ret=>obtain⟨F1,own,st,h0,h1,h2⟩:=hq;exact key F1 own st h0 h1 h2
  |exit id=>obtain⟨F1,own,st,h0,h1,h2⟩:=hq;exact h2.elim
  |panic ch=>
   obtain⟨x,F1,own,st,h0,h1,h2,rfl⟩:=hq;exact iG h1 (by simp) fun w2 hst2=>.inr ⟨x,h2,rfl,kK hst2.fr⟩
  |_=>exact hq.elim
end
end Go.Sx
end
section
namespace Go.Sx
open Go.Proofs
open IntKind (i64)
@[go_sem] def oN (l_:List Int)(k_0:Nat)(s_0:Unit):Int⊕Unit:=(bif((l_.getD k_0 (0:Int)) !=0)then .inl (l_.getD k_0 (0:Int))else .inr ())
def eK (l_:List Int):Int:=(match aq (oN l_) l_.length 0 ()with| .inl x_0_0=>x_0_0| .inr s_0=>0)
@[go_sem] def pw:List SV→Option Con:=(pR .int fun l_=>(pE (.det True (.v (.int .i64 (eK l_))))))
theorem u9:FnOk Tryz.prog 67 pw:=by
 have hG:ConsOk Tryz.prog (mkG [] []):=aw cg0 cg0;refine aZ [.o] mixed am hG (fn:=Tryz.f67) (c:=ae Tryz.f67) kr kr kr kr (dY fun l_=>(aH (fun hp=>?_)));dsimp only[aD]at hp;refine⟨nbl rfl,(fun id st=>bif Nat.beq id 0 then some (LCR (ρ:=Int) (σ:=Unit) 0 [] [] (fun k_0 s_0=>⟨[(5,.rs .int l_),(6,.v (.int .i64 (l_.length:Int))),(7,.v (.int .i64 (k_0:Int)))],[]⟩) (oN l_) pT l_.length () (l_.length≤bo) (fun _=>.ret) (fun x_0_0=>⟨[(2,.v (.int .i64 x_0_0))],[]⟩) st)else none),?_,?_⟩
 ·unfold ae Tryz.f67;simp only[al,true_and,and_true]
  ·refine c5 mixed am hG kr (fun _=>rfl) (l_.length:Int) rfl iw (fun hb0 k_0 s_0 hlt0 _ hw hc=>⟨L0,ah _,?_⟩) (fun hb0 s_0 hc=>?_)
   ·exact ci (jl [])
   ·exact cj (jl [])
 ·unfold ae Tryz.f67;try unfold eK
  exact zq1
def dB (a:Claim)(b:Claim):Int:=(eK ([(bX a.hour b.hour),(bX a.rank b.rank),(bX a.right b.right),(bX a.farm b.farm)]))
@[go_sem] def mm:List SV→Option Con:=(pD .claim fun a=>(pD .claim fun b=>(pE (.det True (.v (.int .i64 (dB a b)))))))
theorem oO:FnOk Tryz.prog 35 mm:=by
 have hG:ConsOk Tryz.prog (mkG [(45,fl),(67,fun l=>pw (dh [.sl .int] l))] []):=aw (cgc fW (cgc (u9.norm [.sl .int]) cg0)) cg0;refine aZ [.o] mixed am hG (fn:=Tryz.f35) (c:=ae Tryz.f35) kr kr kr kr (a7 fun a=>(a7 fun b=>(aH (fun hp=>?_))));dsimp only[aD]at hp;refine⟨nbl rfl,L0,ah _,?_⟩
 ·unfold ae Tryz.f35;try unfold dB
  exact zq1
@[go_sem] def li (a0:District)(a1:List Claim)(k_0:Nat)(s_0:Unit):Unit⊕Unit:=(bif((((!((((((((decide ((a1.getD k_0 (default:Claim)).right≥0))&&(decide ((a1.getD k_0 (default:Claim)).right< (a0.rights.length:Int))))&&(decide ((a1.getD k_0 (default:Claim)).farm≥0)))&&(decide ((a1.getD k_0 (default:Claim)).farm< (a0.farms.length:Int))))&&(decide ((a1.getD k_0 (default:Claim)).hour≥0)))&&(decide ((a1.getD k_0 (default:Claim)).hour<a0.hours)))&&(decide ((a1.getD k_0 (default:Claim)).litres≥1)))&&(decide ((a1.getD k_0 (default:Claim)).litres≤1073741824)))) ||((a0.rights.getD (Int.toNat ((a1.getD k_0 (default:Claim)).right)) (default:Right)).kind !=1)) ||((a0.rights.getD (Int.toNat ((a1.getD k_0 (default:Claim)).right)) (default:Right)).rank !=(a1.getD k_0 (default:Claim)).rank)) ||((decide ((k_0:Int) > 0))&&(decide ((dB (a1.getD (Int.toNat (i64.wrap ((k_0:Int) - 1))) (default:Claim)) (a1.getD k_0 (default:Claim)))≥0))))then .inl ()else .inr ())
def gH (a0:District)(a1:List Claim)(k_0:Nat)(s_0:Unit):Prop:=(((!((((((((decide ((a1.getD k_0 (default:Claim)).right≥0))&&(decide ((a1.getD k_0 (default:Claim)).right< (a0.rights.length:Int))))&&(decide ((a1.getD k_0 (default:Claim)).farm≥0)))&&(decide ((a1.getD k_0 (default:Claim)).farm< (a0.farms.length:Int))))&&(decide ((a1.getD k_0 (default:Claim)).hour≥0)))&&(decide ((a1.getD k_0 (default:Claim)).hour<a0.hours)))&&(decide ((a1.getD k_0 (default:Claim)).litres≥1)))&&(decide ((a1.getD k_0 (default:Claim)).litres≤1073741824))))=false→(0≤(a1.getD k_0 (default:Claim)).right∧(a1.getD k_0 (default:Claim)).right< (a0.rights.length:Int)))∧((((!((((((((decide ((a1.getD k_0 (default:Claim)).right≥0))&&(decide ((a1.getD k_0 (default:Claim)).right< (a0.rights.length:Int))))&&(decide ((a1.getD k_0 (default:Claim)).farm≥0)))&&(decide ((a1.getD k_0 (default:Claim)).farm< (a0.farms.length:Int))))&&(decide ((a1.getD k_0 (default:Claim)).hour≥0)))&&(decide ((a1.getD k_0 (default:Claim)).hour<a0.hours)))&&(decide ((a1.getD k_0 (default:Claim)).litres≥1)))&&(decide ((a1.getD k_0 (default:Claim)).litres≤1073741824)))) ||((a0.rights.getD (Int.toNat ((a1.getD k_0 (default:Claim)).right)) (default:Right)).kind !=1))=false→(0≤(a1.getD k_0 (default:Claim)).right∧(a1.getD k_0 (default:Claim)).right< (a0.rights.length:Int)))∧((((!((((((((decide ((a1.getD k_0 (default:Claim)).right≥0))&&(decide ((a1.getD k_0 (default:Claim)).right< (a0.rights.length:Int))))&&(decide ((a1.getD k_0 (default:Claim)).farm≥0)))&&(decide ((a1.getD k_0 (default:Claim)).farm< (a0.farms.length:Int))))&&(decide ((a1.getD k_0 (default:Claim)).hour≥0)))&&(decide ((a1.getD k_0 (default:Claim)).hour<a0.hours)))&&(decide ((a1.getD k_0 (default:Claim)).litres≥1)))&&(decide ((a1.getD k_0 (default:Claim)).litres≤1073741824)))) ||((a0.rights.getD (Int.toNat ((a1.getD k_0 (default:Claim)).right)) (default:Right)).kind !=1)) ||((a0.rights.getD (Int.toNat ((a1.getD k_0 (default:Claim)).right)) (default:Right)).rank !=(a1.getD k_0 (default:Claim)).rank))=false→((decide ((k_0:Int) > 0))=true→(0≤(i64.wrap ((k_0:Int) - 1))∧(i64.wrap ((k_0:Int) - 1)) < (a1.length:Int))))))
def jA (a0:District)(a1:List Claim):Int:=(bif((aC a0) !=0)then(aC a0)else(bif(decide ((a1.length:Int) > 4096))then 2 else(match aq (li a0 a1) a1.length 0 ()with| .inl x_0_0=>260| .inr s_0=>0)))
def fJ (a0:District)(a1:List Claim):Prop:=(((aC a0) !=0)=false→(a1.length≤bo→((decide ((a1.length:Int) > 4096))=false→(a1.length≤bo→okI (li a0 a1) (gH a0 a1) a1.length 0 ()))))
@[go_sem] def px:List SV→Option Con:=(pD .district fun a0=>(pR .claim fun a1=>(pE (.det (fJ a0 a1) (.v (.int .i64 (jA a0 a1)))))))
theorem u_:FnOk Tryz.prog 19 px:=by
 have hG:ConsOk Tryz.prog (mkG [(34,fun l=>jz (dh [.st .district] l)),(35,mm)] []):=aw (cgc (lh.norm [.st .district]) (cgc oO cg0)) cg0;refine aZ [.o] mixed am hG (fn:=Tryz.f19) (c:=ae Tryz.f19) kr kr kr kr (a7 fun a0=>(dY fun a1=>(aH (fun hp=>?_))));dsimp only[aD]at hp;unfold fJ at hp;refine⟨nbl rfl,(fun id st=>bif Nat.beq id 0 then some (LCR (ρ:=Unit) (σ:=Unit) 1 [] [0] (fun k_0 s_0=>⟨[(1,.rs .claim a1),(2,.ptr 0 0),(16,.rs .claim a1),(17,.v (.int .i64 (a1.length:Int))),(18,.v (.int .i64 (k_0:Int)))],[.cells (cellsOf .district a0)]⟩) (li a0 a1) (gH a0 a1) a1.length () (a1.length≤bo) (fun _=>.ret) (fun x_0_0=>⟨[(4,.v (.int .i64 260))],[.dead]⟩) st)else none),?_,?_⟩
 ·unfold ae Tryz.f19;simp only[al,true_and,and_true]
  ·refine c5 mixed am hG kr (fun _=>rfl) (a1.length:Int) rfl iw (fun hb0 k_0 s_0 hlt0 hq0 hw hc=>⟨L0,ah _,?_⟩) (fun hb0 s_0 hc=>?_)
   ·unfold gH at hq0;try simp only[hw,Int.toNat_natCast]at hq0
    exact ci (jl [0])
   ·exact cj (jl [0])
 ·unfold ae Tryz.f19;try unfold jA
  exact zq1
@[go_sem] def gh (a0:District)(a1:Int)(k_0:Nat)(s_0:List (ClaimsUse×Bool)×List (Int×Int)×List (ClaimsUse×Bool)):Empty⊕(List (ClaimsUse×Bool)×List (Int×Int)×List (ClaimsUse×Bool)):=(bif((decide (a1< (a0.rights.getD k_0 (default:Right)).since)) ||(decide (a1 > (a0.rights.getD k_0 (default:Right)).to)))then .inr (s_0.1,s_0.2.1,s_0.2.2)else(bif((a0.rights.getD k_0 (default:Right)).kind==3)then .inr ((eX .claimsUse .bool s_0.1 ({ farm:=(a0.rights.getD k_0 (default:Right)).farm,reach:=(a0.rights.getD k_0 (default:Right)).reach}:ClaimsUse) true),s_0.2.1,s_0.2.2)else(bif(((a0.rights.getD k_0 (default:Right)).kind==2)&&(!(bS .claimsUse .bool s_0.2.2 ({ farm:=(a0.rights.getD k_0 (default:Right)).farm,reach:=(a0.rights.getD k_0 (default:Right)).reach}:ClaimsUse))))then .inr (s_0.1,(eX .int .int s_0.2.1 ((a0.rights.getD k_0 (default:Right)).reach) (i64.wrap ((bS .int .int s_0.2.1 ((a0.rights.getD k_0 (default:Right)).reach))+1))),(eX .claimsUse .bool s_0.2.2 ({ farm:=(a0.rights.getD k_0 (default:Right)).farm,reach:=(a0.rights.getD k_0 (default:Right)).reach}:ClaimsUse) true))else .inr (s_0.1,s_0.2.1,s_0.2.2))))
def a_ (a0:District)(a1:Int):ClaimsLaw:=(match aq (gh a0 a1) a0.rights.length 0 ([],[],[])with| .inl x=>x.elim| .inr s_0=>({ owners:=s_0.2.1,owned:=s_0.2.2,eased:=s_0.1}:ClaimsLaw))
@[go_sem] def py:List SV→Option Con:=(pD .district fun a0=>(pI fun a1=>(pE (.det True (.agg [.nm .int .int ((a_ a0 a1).owners),.nm .claimsUse .bool ((a_ a0 a1).owned),.nm .claimsUse .bool ((a_ a0 a1).eased)])))))
theorem va:FnOk Tryz.prog 50 py:=by
 have hG:ConsOk Tryz.prog (mkG [] []):=aw cg0 cg0;refine HY true mixed am hG (fn:=Tryz.f50) (c:=ae Tryz.f50) kr kr kr kr (a7 fun a0=>(b9 fun a1=>(aH (fun hp=>?_))));dsimp only[aD]at hp;refine⟨nbl rfl,(fun id st=>bif Nat.beq id 0 then some (LCR (ρ:=Empty) (σ:=(List (ClaimsUse×Bool)×List (Int×Int)×List (ClaimsUse×Bool))) 6 [] [0,1,2,3,4,5] (fun k_0 s_0=>⟨[(1,.v (.int .i64 a1)),(4,.ptr 1 0),(5,.ptr 5 0),(14,.rs .right a0.rights),(15,.v (.int .i64 (a0.rights.length:Int))),(16,.v (.int .i64 (k_0:Int)))],[.dead,.cells [.v (.map none),.v (.map none),.v (.map none)],.mp .int .int s_0.2.1 none,.mp .claimsUse .bool s_0.2.2 none,.mp .claimsUse .bool s_0.1 none,.cells [.os 2,.os 3,.os 4]]⟩) (gh a0 a1) pT a0.rights.length ([],[],[]) (a0.rights.length≤bo) ((·.elim)) ((·.elim)) st)else none),?_,?_⟩
 ·unfold ae Tryz.f50;simp only[al,true_and,and_true]
  ·refine c5 mixed am hG kr (fun _=>rfl) (a0.rights.length:Int) rfl iw (fun hb0 k_0 s_0 hlt0 _ hw hc=>⟨L0,ah _,?_⟩) (fun hb0 s_0 hc=>?_)
   ·exact ci (jl [0,1,2,3,4,5])
   ·exact cj (jl [0,1,2,3,4,5])
 ·unfold ae Tryz.f50;try unfold a_
  exact zq1
def gR (x:ClaimsLaw)(u:ClaimsUse):Bool:=(bif(bS .claimsUse .bool x.owned u)then(((i64.wrap ((bS .int .int x.owners u.reach) - 1)) ==0) ||(bS .claimsUse .bool x.eased u))else(((bS .int .int x.owners u.reach) ==0) ||(bS .claimsUse .bool x.eased u)))
@[go_sem] def nP:List SV→Option Con:=(pD .claimsLaw fun x=>(pD .claimsUse fun u=>(pE (.det True (.v (.bool (gR x u)))))))
theorem sR:FnOk Tryz.prog 54 nP:=by
 have hG:ConsOk Tryz.prog (mkG [] []):=aw cg0 cg0;refine aZ [.o] mixed am hG (fn:=Tryz.f54) (c:=ae Tryz.f54) kr kr kr kr (a7 fun x=>(a7 fun u=>(aH (fun hp=>?_))));dsimp only[aD]at hp;refine⟨nbl rfl,L0,ah _,?_⟩
 ·unfold ae Tryz.f54;try unfold gR
  exact zq1
def lJ (r:Int)(x_:ClaimsLaw)(c_:Claim):Bool:=(!(gR x_ ({ farm:=c_.farm,reach:=r}:ClaimsUse)))
@[go_sem] def pz:List SV→Option Con:=(pI fun r=>(pX .claimsLaw fun x_=>(pX .claim fun c_=>(pE (.det True (.v (.bool (lJ r x_ c_))))))))
theorem vb:FnOk Tryz.prog 53 pz:=by
 have hG:ConsOk Tryz.prog (mkG [(54,fun l=>nP (dh [.st .claimsLaw,.st .claimsUse] l))] []):=aw (cgc (sR.norm [.st .claimsLaw,.st .claimsUse]) cg0) cg0;refine aZ [.o] mixed am hG (fn:=Tryz.f53) (c:=ae Tryz.f53) kr kr kr kr (b9 fun r=>(pn fun x_=>(pn fun c_=>(aH (fun hp=>?_)))));dsimp only[aD]at hp;refine⟨nbl rfl,L0,ah _,?_⟩
 ·unfold ae Tryz.f53;try unfold lJ
  exact zq1
def dC (a:ClaimsFound)(b:ClaimsFound):Int:=(dB a.claim b.claim)
@[go_sem] def pA:List SV→Option Con:=(pD .claimsFound fun a=>(pD .claimsFound fun b=>(pE (.det True (.v (.int .i64 (dC a b)))))))
theorem ve:FnOk Tryz.prog 56 pA:=by
 have hG:ConsOk Tryz.prog (mkG [(35,mm)] []):=aw (cgc oO cg0) cg0;refine aZ [.o] mixed am hG (fn:=Tryz.f56) (c:=ae Tryz.f56) kr kr kr kr (a7 fun a=>(a7 fun b=>(aH (fun hp=>?_))));dsimp only[aD]at hp;refine⟨nbl rfl,L0,ah _,?_⟩
 ·unfold ae Tryz.f56;try unfold dC
  exact zq1
@[go_sem] def dG (s_:List Int)(x_:ClaimsLaw)(c_:Claim)(k_0:Nat)(s_0:Unit):Int⊕Unit:=(bif(lJ (s_.getD k_0 (0:Int)) x_ c_)then .inl (k_0:Int)else .inr ())
def aT (s_:List Int)(x_:ClaimsLaw)(c_:Claim):Int:=(match aq (dG s_ x_ c_) s_.length 0 ()with| .inl x_0_0=>x_0_0| .inr s_0=>(-1))
@[go_sem] def gS:List SV→Option Con:=(pR .int fun s_=>(pFn 53 (pX .claimsLaw fun x_=>(pX .claim fun c_=>(pE ((pE (.det True (.v (.int .i64 (aT s_ x_ c_)))))))))))
theorem lK:FnOk Tryz.prog 52 gS:=by
 have hG:ConsOk Tryz.prog (mkG [(53,pz)] []):=aw (cgc vb cg0) cg0;refine aZ [.o] mixed am hG (fn:=Tryz.f52) (c:=ae Tryz.f52) kr kr kr kr (dY fun s_=>(sP (pn fun x_=>(pn fun c_=>(aH ((aH (fun hp=>?_))))))));dsimp only[aD]at hp;refine⟨nbl rfl,(fun id st=>bif Nat.beq id 0 then some (LCR (ρ:=Int) (σ:=Unit) 0 [] [] (fun k_0 s_0=>⟨[(0,.rs .int s_),(1,.fn 53 [] [.ep (cellsOf .claimsLaw x_) 0,.ep (cellsOf .claim c_) 0]),(7,.v (.int .i64 (s_.length:Int))),(8,.v (.int .i64 (k_0:Int)))],[]⟩) (dG s_ x_ c_) pT s_.length () (s_.length≤bo) (fun _=>.ret) (fun x_0_0=>⟨[(4,.v (.int .i64 x_0_0))],[]⟩) st)else none),?_,?_⟩
 ·unfold ae Tryz.f52;simp only[al,true_and,and_true]
  ·refine c5 mixed am hG kr (fun _=>rfl) (s_.length:Int) rfl iw (fun hb0 k_0 s_0 hlt0 _ hw hc=>⟨L0,ah _,?_⟩) (fun hb0 s_0 hc=>?_)
   ·exact ci (jl [])
   ·exact cj (jl [])
 ·unfold ae Tryz.f52;try unfold aT
  exact zq1
@[go_sem] noncomputable def cU:List SV→Option Con:=fun l=>(gS l)
theorem lj:FnOk Tryz.prog 52 cU:=lK
end Go.Sx
end
