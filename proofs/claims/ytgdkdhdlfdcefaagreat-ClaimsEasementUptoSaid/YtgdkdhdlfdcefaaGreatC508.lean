/- Part of the proof that the law ClaimsEasement returns true and leaves its arguments as they were, for all arguments of bulk at most 1048576 (the Upto form). -/
import Derived.Test.YtgdkdhdlfdcefaaGreatC507
import Derived.Test.YtgdkdhdlfdcefaaGreatProg
set_option linter.all false
set_option maxHeartbeats 4000000
set_option maxRecDepth 100000
section
namespace Go.Sx
open Go.Proofs
theorem kr {p:Prop}(h:p:=by kernel_rfl):p:=h
def ti3:TI:=⟨1,8,false,[(.v (.int .i64 0))],[],0,0,false,false,(some .int),(some .i64),false,[],none,none,1⟩
def ti4:TI:=⟨1,1,false,[(.v (.bool false))],[],0,0,false,false,(some .bool),none,false,[],none,none,3⟩
def ti9:TI:=⟨1,16,false,[(.v (.string (ByteArray.mk #[])))],[],0,0,false,false,(some .str),none,false,[],none,none,2⟩
def LF:TI:=⟨2,16,true,[(.v (.int .i64 0)),(.v (.int .i64 0))],[(0,(1,false)),(1,(1,false))],0,0,false,false,(some .tank),none,false,[1,1],none,none,0⟩
def LG:TI:=⟨1,24,false,[(.v (.slice none 0 0))],[],118,0,true,false,none,none,false,[],none,none,0⟩
def LH:TI:=⟨1,24,false,[(.v (.slice none 0 0))],[],107,0,true,false,none,none,false,[],none,none,0⟩
def LI:TI:=⟨1,24,false,[(.v (.slice none 0 0))],[],120,0,true,false,none,none,false,[],none,none,0⟩
def LJ:TI:=⟨1,24,false,[(.v (.slice none 0 0))],[],61,0,true,false,none,none,false,[],none,none,0⟩
def LK:TI:=⟨1,24,false,[(.v (.slice none 0 0))],[],177,0,true,false,none,none,false,[],none,none,0⟩
def LL:TI:=⟨1,24,false,[(.v (.slice none 0 0))],[],265,0,true,false,none,none,false,[],none,none,0⟩
def LM:TI:=⟨10,184,true,[(.v (.string (ByteArray.mk #[]))),(.v (.int .i64 0)),(.v (.int .i64 0)),(.v (.int .i64 0)),(.v (.slice none 0 0)),(.v (.slice none 0 0)),(.v (.slice none 0 0)),(.v (.slice none 0 0)),(.v (.slice none 0 0)),(.v (.slice none 0 0))],[(0,(1,false)),(1,(1,false)),(2,(2,true)),(4,(1,false)),(5,(1,false)),(6,(1,false)),(7,(1,false)),(8,(1,false)),(9,(1,false))],0,0,false,false,(some .district),none,false,[],none,none,0⟩
def LN:TI:=⟨1,24,false,[(.v (.slice none 0 0))],[],74,0,true,false,none,none,false,[],none,none,0⟩
def LO:TI:=⟨1,24,false,[(.v (.slice none 0 0))],[],51,0,true,false,none,none,false,[],none,none,0⟩
def LP:TI:=⟨1,24,false,[(.v (.slice none 0 0))],[],53,0,true,false,none,none,false,[],none,none,0⟩
def LQ:TI:=⟨1,8,false,[(.v (.map none))],[],4,0,false,false,none,none,false,[],(some .block),(some .bool),0⟩
def LR:TI:=⟨5,40,true,[(.v (.int .i64 0)),(.v (.int .i64 0)),(.v (.int .i64 0)),(.v (.int .i64 0)),(.v (.int .i64 0))],[(0,(1,false)),(1,(1,false)),(2,(1,false)),(3,(1,false)),(4,(1,false))],0,0,false,false,(some .claim),none,false,[1,1,1,1,1],none,none,0⟩
def LS:TI:=⟨4,32,true,[(.v (.int .i64 0)),(.v (.int .i64 0)),(.v (.int .i64 0)),(.v (.int .i64 0))],[(0,(1,false)),(1,(1,false)),(2,(1,false)),(3,(1,false))],0,0,false,false,(some .block),none,false,[1,1,1,1],none,none,0⟩
def LU:TI:=⟨1,24,false,[(.v (.slice none 0 0))],[],58,0,true,false,none,none,false,[],none,none,0⟩
def LV:TI:=⟨4,32,true,[(.v (.int .i64 0)),(.v (.int .i64 0)),(.v (.int .i64 0)),(.v (.int .i64 0))],[(0,(1,false)),(1,(1,false)),(2,(1,false)),(3,(1,false))],0,0,false,false,(some .holding),none,false,[1,1,1,1],none,none,0⟩
def LW:TI:=⟨10,88,true,[(.v (.string (ByteArray.mk #[]))),(.v (.int .i64 0)),(.v (.int .i64 0)),(.v (.int .i64 0)),(.v (.int .i64 0)),(.v (.int .i64 0)),(.v (.int .i64 0)),(.v (.int .i64 0)),(.v (.int .i64 0)),(.v (.int .i64 0))],[(0,(1,false)),(1,(1,false)),(2,(1,false)),(3,(1,false)),(4,(1,false)),(5,(1,false)),(6,(1,false)),(7,(1,false)),(8,(1,false)),(9,(1,false))],0,0,false,false,(some .right),none,false,[2,1,1,1,1,1,1,1,1,1],none,none,0⟩
def LX:TI:=⟨1,24,false,[(.v (.slice none 0 0))],[],3,0,true,false,none,none,false,[],none,none,0⟩
def LY:TI:=⟨1,2,false,[(.v (.int .u16 0))],[],0,0,false,false,none,(some .u16),false,[],none,none,1⟩
def LZ:TI:=⟨1,24,false,[(.v (.slice none 0 0))],[],196,0,true,false,none,none,false,[],none,none,0⟩
def L1:TI:=⟨9,88,true,[(.v (.int .i64 0)),(.v (.int .i64 0)),(.v (.int .i64 0)),(.v (.int .i64 0)),(.v (.int .i64 0)),(.v (.slice none 0 0)),(.v (.int .i64 0)),(.v (.int .i64 0)),(.v (.int .i64 0))],[(0,(1,false)),(1,(1,false)),(2,(1,false)),(3,(1,false)),(4,(1,false)),(5,(1,false)),(6,(1,false)),(7,(1,false)),(8,(1,false))],0,0,false,false,(some .deed),none,false,[],none,none,0⟩
def L2:TI:=⟨1,24,false,[(.v (.slice none 0 0))],[],81,0,true,false,none,none,false,[],none,none,0⟩
def L3:TI:=⟨6,48,true,[(.v (.int .i64 0)),(.v (.int .i64 0)),(.v (.int .i64 0)),(.v (.int .i64 0)),(.v (.int .i64 0)),(.v (.int .i64 0))],[(0,(5,true)),(5,(1,false))],0,0,false,false,(some .claimsFound),none,false,[1,1,1,1,1,1],none,none,0⟩
def L4:TI:=⟨1,8,false,[(.v (.map none))],[],3,0,false,false,none,none,false,[],(some .registerTitle),(some .int),0⟩
def L5:TI:=⟨2,16,true,[(.v (.int .i64 0)),(.v (.int .i64 0))],[(0,(1,false)),(1,(1,false))],0,0,false,false,(some .registerTitle),none,false,[1,1],none,none,0⟩
def FK:TI:=⟨4,40,true,[(.v (.string (ByteArray.mk #[]))),(.v (.int .i64 0)),(.v (.int .i64 0)),(.v (.int .i64 0))],[(0,(1,false)),(1,(1,false)),(2,(1,false)),(3,(1,false))],0,0,false,false,(some .farm),none,false,[2,1,1,1],none,none,0⟩
def FL:TI:=⟨1,8,false,[(.v (.map none))],[],74,0,false,false,none,none,false,[],(some .int),(some .deed),0⟩
def FM:TI:=⟨2,16,true,[(.v (.int .i64 0)),(.v (.int .i64 0))],[(0,(1,false)),(1,(1,false))],0,0,false,false,(some .ratio),none,false,[1,1],none,none,0⟩
def FN:TI:=⟨4,32,true,[(.v (.int .i64 0)),(.v (.int .i64 0)),(.v (.int .i64 0)),(.v (.int .i64 0))],[],113,2,false,true,(some .ratio2),none,false,[],none,none,0⟩
def FO:TI:=⟨2,16,true,[(.v (.int .i64 0)),(.v (.int .i64 0))],[(0,(1,false)),(1,(1,false))],0,0,false,false,(some .range),none,false,[1,1],none,none,0⟩
def FP:TI:=⟨12,104,true,[(.v (.string (ByteArray.mk #[]))),(.v (.int .i64 0)),(.v (.int .i64 0)),(.v (.int .i64 0)),(.v (.int .i64 0)),(.v (.int .i64 0)),(.v (.int .i64 0)),(.v (.int .i64 0)),(.v (.int .i64 0)),(.v (.int .i64 0)),(.v (.int .i64 0)),(.v (.int .i64 0))],[(0,(1,false)),(1,(1,false)),(2,(1,false)),(3,(1,false)),(4,(1,false)),(5,(1,false)),(6,(2,true)),(8,(4,true))],0,0,false,false,(some .reach),none,false,[],none,none,0⟩
def FQ:TI:=⟨2,24,true,[(.v (.string (ByteArray.mk #[]))),(.v (.int .i64 0))],[(0,(1,false)),(1,(1,false))],0,0,false,false,(some .crop),none,false,[2,1],none,none,0⟩
def FR:TI:=⟨1,8,false,[(.v (.map none))],[],3,0,false,false,none,none,false,[],(some .int),(some .int),0⟩
def FT:TI:=⟨1,8,false,[(.v (.map none))],[],4,0,false,false,none,none,false,[],(some .claimsUse),(some .bool),0⟩
def FU:TI:=⟨3,24,true,[(.v (.map none)),(.v (.map none)),(.v (.map none))],[(0,(1,false)),(1,(1,false)),(2,(1,false))],0,0,false,false,(some .claimsLaw),none,false,[],none,none,0⟩
def FV:TI:=⟨2,16,true,[(.v (.int .i64 0)),(.v (.int .i64 0))],[(0,(1,false)),(1,(1,false))],0,0,false,false,(some .claimsUse),none,false,[1,1],none,none,0⟩
def FW:TI:=⟨1,8,false,[(.v (.map none))],[],143,0,false,false,none,none,false,[],(some .int),(some .fnc),0⟩
def FX:TI:=⟨1,8,false,[(.v (.map none))],[],4,0,false,false,none,none,false,[],(some .int),(some .bool),0⟩
def FY:TI:=⟨1,8,false,[(.v (.int .u64 0))],[],0,0,false,false,none,(some .u64),false,[],none,none,1⟩
def FZ:TI:=⟨4,40,true,[(.v (.string (ByteArray.mk #[]))),(.v (.int .i64 0)),(.v (.int .i64 0)),(.v (.int .i64 0))],[(0,(1,false)),(1,(1,false)),(2,(1,false)),(3,(1,false))],0,0,false,false,(some .duty),none,false,[2,1,1,1],none,none,0⟩
def F0:TI:=⟨3,24,true,[(.v (.int .i64 0)),(.v (.int .i64 0)),(.v (.int .i64 0))],[(0,(1,false)),(1,(2,true))],0,0,false,false,(some .part),none,false,[1,1,1],none,none,0⟩
def F4:TI:=⟨1,8,false,[(.v .nilFunc)],[],0,0,false,false,none,none,false,[],none,none,0⟩
def F5:TI:=⟨1,8,true,[(.v .nilFunc)],[(0,(1,false))],0,0,false,false,none,none,false,[],none,none,0⟩
def ts:Tis:=fun t=>(bif Nat.ble t 72 then(bif Nat.ble t 32 then(bif Nat.ble t 25 then(bif Nat.ble t 9 then(bif Nat.ble t 3 then(bif Nat.beq t 3 then some ti3 else none)else(bif Nat.ble t 4 then(bif Nat.beq t 4 then some ti4 else none)else(bif Nat.beq t 9 then some ti9 else none)))else(bif Nat.ble t 23 then(bif Nat.beq t 23 then some LF else none)else(bif Nat.ble t 24 then(bif Nat.beq t 24 then some LG else none)else(bif Nat.beq t 25 then some LH else none))))else(bif Nat.ble t 28 then(bif Nat.ble t 26 then(bif Nat.beq t 26 then some LI else none)else(bif Nat.ble t 27 then(bif Nat.beq t 27 then some LJ else none)else(bif Nat.beq t 28 then some LK else none)))else(bif Nat.ble t 29 then(bif Nat.beq t 29 then some LL else none)else(bif Nat.ble t 31 then(bif Nat.beq t 31 then some LM else none)else(bif Nat.beq t 32 then some LN else none)))))else(bif Nat.ble t 53 then(bif Nat.ble t 39 then(bif Nat.ble t 35 then(bif Nat.beq t 35 then some LO else none)else(bif Nat.ble t 36 then(bif Nat.beq t 36 then some ti3 else none)else(bif Nat.beq t 39 then some LP else none)))else(bif Nat.ble t 49 then(bif Nat.beq t 49 then some LQ else none)else(bif Nat.ble t 51 then(bif Nat.beq t 51 then some LR else none)else(bif Nat.beq t 53 then some LS else none))))else(bif Nat.ble t 61 then(bif Nat.ble t 54 then(bif Nat.beq t 54 then some LU else none)else(bif Nat.ble t 58 then(bif Nat.beq t 58 then some LV else none)else(bif Nat.beq t 61 then some LW else none)))else(bif Nat.ble t 62 then(bif Nat.beq t 62 then some LX else none)else(bif Nat.ble t 66 then(bif Nat.beq t 66 then some LY else none)else(bif Nat.beq t 72 then some LZ else none))))))else(bif Nat.ble t 120 then(bif Nat.ble t 107 then(bif Nat.ble t 81 then(bif Nat.ble t 74 then(bif Nat.beq t 74 then some L1 else none)else(bif Nat.ble t 77 then(bif Nat.beq t 77 then some L2 else none)else(bif Nat.beq t 81 then some L3 else none)))else(bif Nat.ble t 92 then(bif Nat.beq t 92 then some L4 else none)else(bif Nat.ble t 99 then(bif Nat.beq t 99 then some L5 else none)else(bif Nat.beq t 107 then some FK else none))))else(bif Nat.ble t 114 then(bif Nat.ble t 110 then(bif Nat.beq t 110 then some FL else none)else(bif Nat.ble t 113 then(bif Nat.beq t 113 then some FM else none)else(bif Nat.beq t 114 then some FN else none)))else(bif Nat.ble t 116 then(bif Nat.beq t 116 then some FO else none)else(bif Nat.ble t 118 then(bif Nat.beq t 118 then some FP else none)else(bif Nat.beq t 120 then some FQ else none)))))else(bif Nat.ble t 145 then(bif Nat.ble t 124 then(bif Nat.ble t 121 then(bif Nat.beq t 121 then some FR else none)else(bif Nat.ble t 122 then(bif Nat.beq t 122 then some FT else none)else(bif Nat.beq t 124 then some FU else none)))else(bif Nat.ble t 132 then(bif Nat.beq t 132 then some FV else none)else(bif Nat.ble t 141 then(bif Nat.beq t 141 then some FW else none)else(bif Nat.beq t 145 then some FX else none))))else(bif Nat.ble t 177 then(bif Nat.ble t 153 then(bif Nat.beq t 153 then some FY else none)else(bif Nat.ble t 170 then(bif Nat.beq t 170 then some ti3 else none)else(bif Nat.beq t 177 then some FZ else none)))else(bif Nat.ble t 196 then(bif Nat.beq t 196 then some F0 else none)else(bif Nat.ble t 225 then(bif Nat.beq t 225 then some F4 else none)else(bif Nat.beq t 227 then some F5 else none)))))))
theorem Pr:cq Tryz.prog 3=some ti3:=by kernel_rfl
theorem Ps:cq Tryz.prog 4=some ti4:=by kernel_rfl
theorem Pt:cq Tryz.prog 9=some ti9:=by kernel_rfl
theorem L6:cq Tryz.prog 23=some LF:=by kernel_rfl
theorem L7:cq Tryz.prog 24=some LG:=by kernel_rfl
theorem L8:cq Tryz.prog 25=some LH:=by kernel_rfl
theorem L9:cq Tryz.prog 26=some LI:=by kernel_rfl
theorem L_:cq Tryz.prog 27=some LJ:=by kernel_rfl
theorem Ma:cq Tryz.prog 28=some LK:=by kernel_rfl
theorem Mb:cq Tryz.prog 29=some LL:=by kernel_rfl
theorem Mc:cq Tryz.prog 31=some LM:=by kernel_rfl
theorem Md:cq Tryz.prog 32=some LN:=by kernel_rfl
theorem Me:cq Tryz.prog 35=some LO:=by kernel_rfl
theorem Mf:cq Tryz.prog 36=some ti3:=by kernel_rfl
theorem Mg:cq Tryz.prog 39=some LP:=by kernel_rfl
theorem Mh:cq Tryz.prog 49=some LQ:=by kernel_rfl
theorem Mi:cq Tryz.prog 51=some LR:=by kernel_rfl
theorem Mj:cq Tryz.prog 53=some LS:=by kernel_rfl
theorem Mk:cq Tryz.prog 54=some LU:=by kernel_rfl
theorem Ml:cq Tryz.prog 58=some LV:=by kernel_rfl
theorem Mm:cq Tryz.prog 61=some LW:=by kernel_rfl
theorem Mn:cq Tryz.prog 62=some LX:=by kernel_rfl
theorem Mo:cq Tryz.prog 66=some LY:=by kernel_rfl
theorem Mq:cq Tryz.prog 72=some LZ:=by kernel_rfl
theorem Mr:cq Tryz.prog 74=some L1:=by kernel_rfl
theorem Ms:cq Tryz.prog 77=some L2:=by kernel_rfl
theorem Mt:cq Tryz.prog 81=some L3:=by kernel_rfl
theorem Mu:cq Tryz.prog 92=some L4:=by kernel_rfl
theorem Mv:cq Tryz.prog 99=some L5:=by kernel_rfl
theorem Jh:cq Tryz.prog 107=some FK:=by kernel_rfl
theorem Ji:cq Tryz.prog 110=some FL:=by kernel_rfl
theorem Jj:cq Tryz.prog 113=some FM:=by kernel_rfl
theorem Jk:cq Tryz.prog 114=some FN:=by kernel_rfl
theorem Jl:cq Tryz.prog 116=some FO:=by kernel_rfl
theorem Jm:cq Tryz.prog 118=some FP:=by kernel_rfl
theorem Jn:cq Tryz.prog 120=some FQ:=by kernel_rfl
theorem Jo:cq Tryz.prog 121=some FR:=by kernel_rfl
theorem Jp:cq Tryz.prog 122=some FT:=by kernel_rfl
theorem Jq:cq Tryz.prog 124=some FU:=by kernel_rfl
theorem Jr:cq Tryz.prog 132=some FV:=by kernel_rfl
theorem Js:cq Tryz.prog 141=some FW:=by kernel_rfl
theorem Jt:cq Tryz.prog 145=some FX:=by kernel_rfl
theorem Ju:cq Tryz.prog 153=some FY:=by kernel_rfl
theorem Jv:cq Tryz.prog 170=some ti3:=by kernel_rfl
theorem Jw:cq Tryz.prog 177=some FZ:=by kernel_rfl
theorem Jx:cq Tryz.prog 196=some F0:=by kernel_rfl
theorem Jy:cq Tryz.prog 225=some F4:=by kernel_rfl
theorem Jz:cq Tryz.prog 227=some F5:=by kernel_rfl
theorem an:Tis.ok ts Tryz.prog:=(Tis.ok_node (Tis.ok_node (Tis.ok_node (Tis.ok_node (Tis.ok_node (Tis.ok_leaf Pr) (Tis.ok_node (Tis.ok_leaf Ps) (Tis.ok_leaf Pt))) (Tis.ok_node (Tis.ok_leaf L6) (Tis.ok_node (Tis.ok_leaf L7) (Tis.ok_leaf L8)))) (Tis.ok_node (Tis.ok_node (Tis.ok_leaf L9) (Tis.ok_node (Tis.ok_leaf L_) (Tis.ok_leaf Ma))) (Tis.ok_node (Tis.ok_leaf Mb) (Tis.ok_node (Tis.ok_leaf Mc) (Tis.ok_leaf Md))))) (Tis.ok_node (Tis.ok_node (Tis.ok_node (Tis.ok_leaf Me) (Tis.ok_node (Tis.ok_leaf Mf) (Tis.ok_leaf Mg))) (Tis.ok_node (Tis.ok_leaf Mh) (Tis.ok_node (Tis.ok_leaf Mi) (Tis.ok_leaf Mj)))) (Tis.ok_node (Tis.ok_node (Tis.ok_leaf Mk) (Tis.ok_node (Tis.ok_leaf Ml) (Tis.ok_leaf Mm))) (Tis.ok_node (Tis.ok_leaf Mn) (Tis.ok_node (Tis.ok_leaf Mo) (Tis.ok_leaf Mq)))))) (Tis.ok_node (Tis.ok_node (Tis.ok_node (Tis.ok_node (Tis.ok_leaf Mr) (Tis.ok_node (Tis.ok_leaf Ms) (Tis.ok_leaf Mt))) (Tis.ok_node (Tis.ok_leaf Mu) (Tis.ok_node (Tis.ok_leaf Mv) (Tis.ok_leaf Jh)))) (Tis.ok_node (Tis.ok_node (Tis.ok_leaf Ji) (Tis.ok_node (Tis.ok_leaf Jj) (Tis.ok_leaf Jk))) (Tis.ok_node (Tis.ok_leaf Jl) (Tis.ok_node (Tis.ok_leaf Jm) (Tis.ok_leaf Jn))))) (Tis.ok_node (Tis.ok_node (Tis.ok_node (Tis.ok_leaf Jo) (Tis.ok_node (Tis.ok_leaf Jp) (Tis.ok_leaf Jq))) (Tis.ok_node (Tis.ok_leaf Jr) (Tis.ok_node (Tis.ok_leaf Js) (Tis.ok_leaf Jt)))) (Tis.ok_node (Tis.ok_node (Tis.ok_leaf Ju) (Tis.ok_node (Tis.ok_leaf Jv) (Tis.ok_leaf Jw))) (Tis.ok_node (Tis.ok_leaf Jx) (Tis.ok_node (Tis.ok_leaf Jy) (Tis.ok_leaf Jz)))))))
@[go_sem] theorem ts_3:ts 3=some ti3:=(rfl)
@[go_sem] theorem ts_4:ts 4=some ti4:=(rfl)
@[go_sem] theorem ts_9:ts 9=some ti9:=(rfl)
@[go_sem] theorem ts_23:ts 23=some LF:=(rfl)
@[go_sem] theorem ts_24:ts 24=some LG:=(rfl)
@[go_sem] theorem ts_25:ts 25=some LH:=(rfl)
@[go_sem] theorem ts_26:ts 26=some LI:=(rfl)
@[go_sem] theorem ts_27:ts 27=some LJ:=(rfl)
@[go_sem] theorem ts_28:ts 28=some LK:=(rfl)
@[go_sem] theorem ts_29:ts 29=some LL:=(rfl)
@[go_sem] theorem ts_31:ts 31=some LM:=(rfl)
@[go_sem] theorem ts_32:ts 32=some LN:=(rfl)
@[go_sem] theorem ts_35:ts 35=some LO:=(rfl)
@[go_sem] theorem ts_36:ts 36=some ti3:=(rfl)
@[go_sem] theorem ts_39:ts 39=some LP:=(rfl)
@[go_sem] theorem ts_49:ts 49=some LQ:=(rfl)
@[go_sem] theorem ts_51:ts 51=some LR:=(rfl)
@[go_sem] theorem ts_53:ts 53=some LS:=(rfl)
@[go_sem] theorem ts_54:ts 54=some LU:=(rfl)
@[go_sem] theorem ts_58:ts 58=some LV:=(rfl)
@[go_sem] theorem ts_61:ts 61=some LW:=(rfl)
@[go_sem] theorem ts_62:ts 62=some LX:=(rfl)
@[go_sem] theorem ts_66:ts 66=some LY:=(rfl)
@[go_sem] theorem ts_72:ts 72=some LZ:=(rfl)
@[go_sem] theorem ts_74:ts 74=some L1:=(rfl)
@[go_sem] theorem ts_77:ts 77=some L2:=(rfl)
@[go_sem] theorem ts_81:ts 81=some L3:=(rfl)
@[go_sem] theorem ts_92:ts 92=some L4:=(rfl)
@[go_sem] theorem ts_99:ts 99=some L5:=(rfl)
@[go_sem] theorem Wd:ts 107=some FK:=(rfl)
@[go_sem] theorem We:ts 110=some FL:=(rfl)
@[go_sem] theorem Wf:ts 113=some FM:=(rfl)
@[go_sem] theorem Wg:ts 114=some FN:=(rfl)
@[go_sem] theorem Wh:ts 116=some FO:=(rfl)
@[go_sem] theorem Wi:ts 118=some FP:=(rfl)
@[go_sem] theorem Wj:ts 120=some FQ:=(rfl)
@[go_sem] theorem Wk:ts 121=some FR:=(rfl)
@[go_sem] theorem Wl:ts 122=some FT:=(rfl)
@[go_sem] theorem Wm:ts 124=some FU:=(rfl)
@[go_sem] theorem Wn:ts 132=some FV:=(rfl)
@[go_sem] theorem Wo:ts 141=some FW:=(rfl)
@[go_sem] theorem Wp:ts 145=some FX:=(rfl)
@[go_sem] theorem Wq:ts 153=some FY:=(rfl)
@[go_sem] theorem Wr:ts 170=some ti3:=(rfl)
@[go_sem] theorem Ws:ts 177=some FZ:=(rfl)
@[go_sem] theorem Wt:ts 196=some F0:=(rfl)
@[go_sem] theorem Wu:ts 225=some F4:=(rfl)
@[go_sem] theorem Wv:ts 227=some F5:=(rfl)
attribute [go_sem] ti3 ti4 ti9 LF LG LH LI LJ LK LL LM LN LO LP LQ LR LS LU LV LW LX LY LZ L1 L2 L3 L4 L5 FK FL FM FN FO FP FQ FR FT FU FV FW FX FY FZ F0 F4 F5
theorem mixed:Tryz.prog.follows .mixedOrders=true:=by kernel_rfl
def gE:List SV→Option Con
 | [.v (.iface t (.int .i64 e))] =>bif Nat.beq t 170 then some (.det True (.i e))else none
 |_=>none
theorem uB:FnOk Tryz.prog 64 gE:=by
 have hG:ConsOk Tryz.prog (mkG [] []):=ay (by simp) (by simp);refine ba [.o] mixed an hG (fn:=Tryz.f64) (c:=ae Tryz.f64) kr kr kr kr fun l con h hp=>?_;unfold gE at h;split at h
 ·rename_i t e;cases ht:Nat.beq t 170 with
  |false=>rw[ht]at h;cases h
  |true=>
   rw[ht]at h;cases h;have ht':=Nat.eq_of_beq_eq_true ht;subst ht';refine⟨nbl rfl,L0,by unfold ae Tryz.f64;simp only[am,and_self],?_⟩;unfold ae Tryz.f64;simp only[go_sem,true_imp_iff,false_imp_iff,Nat.reduceBEq,Nat.reduceLeDiff,Nat.reduceAdd,Nat.reduceSub,Nat.reduceMul,true_and,and_true,implies_true,reduceCtorEq]
 ·cases h
def Pu:Value→Option SV
 | .iface t (.int .i64 e) =>bif Nat.beq t 170 then some (.i e)else none
 |_=>none
theorem JA:NP Tryz.prog 63 Pu:=by
 obtain⟨fn,hfn,hbody,hn,hres⟩:∃ fn,Tryz.prog.funcs[63]? =some fn∧fn.body=some (ae Tryz.f63)∧fn.ntmps=7∧fn.results= #[]:=⟨Tryz.f63,by kernel_rfl,by kernel_rfl,by kernel_rfl,by kernel_rfl⟩;have hG:ConsOk Tryz.prog (mkG [(64,gE)] []):=ay (by
  intro x hx;simp only[List.mem_cons,List.not_mem_nil,or_false]at hx;rcases hx with rfl;exact uB) (by simp)
 refine⟨fun args w=>by kernel_rfl,fun p w=>?_,?_⟩
 ·refine callsDIn_of_wpSIn hfn hbody trivial fun c₀ cs hu=>?_;unfold ae Tryz.f63;refine wpSIn_seq (wpSIn_region ?_);simp[wpOpsSIn,go_sem,recoverD,hu,hn,Exit.thenS,Oper.about,Region.wanted];refine wpSIn_seq (wpSIn_region ?_);simp[wpOpsSIn,go_sem,recoverD,hu,Exit.thenS,Oper.about,Region.wanted];refine wpSIn_cond (t:=false) (by simp[Act.eval]) ?_;simp only[Bool.false_eq_true,if_false];refine wpSIn_of_wpIn rfl (wpIn_skip ?_);cases c₀;simp_all [bodyPostS,results]
 ·intro x s hx F own w h id hd b y hfw hp hob ho hpb;unfold Pu at hx;split at hx
  ·rename_i t e;cases ht:Nat.beq t 170 with
   |false=>rw[ht]at hx;cases hx
   |true=>
    rw[ht]at hx;cases hx;have ht':=Nat.eq_of_beq_eq_true ht;subst ht';refine callsDIn_of_wpSIn hfn hbody trivial fun c₀ cs hu=>?_;unfold ae Tryz.f63;refine wpSIn_seq (wpSIn_region ?_);simp[wpOpsSIn,go_sem,recoverD,hu,hn,Exit.thenS,Oper.about,Region.wanted];refine wpSIn_seq (wpSIn_region ?_);simp[wpOpsSIn,go_sem,recoverD,hu,Exit.thenS,Oper.about,Region.wanted];refine wpSIn_cond (t:=true) (by simp[Act.eval]) ?_;simp only[if_true];refine wpSIn_of_wpIn rfl ?_;have hr:StRel F { w:=w,own:=own} 7 own ⟨[(0,.ptr id 0),(1,.v (.iface 170 (.int .i64 e)))],h⟩ { tmps:= #[.pointer (some ⟨b,0,none⟩),.iface 170 (.int .i64 e),.iface 170 (.int .i64 e),.iface 170 (.int .i64 e),.bool true,undef,undef],defers:=[]} w:=by
     refine⟨rfl,Dfr.nil,hp,Fr.refl { w:=w,own:=own},fun t=>?_⟩;rw[kn];by_cases h0:0=t
     ·subst h0;rw[if_pos rfl];exact .ptr ho hpb
     ·rw[if_neg h0,kn];by_cases h1:1=t
      ·subst h1;rw[if_pos rfl];exact .v _
      ·rw[if_neg h1];exact .any _
    refine wpIn_mono (EB (ts:=ts) (L:=L0) (Q:=fun st=>st.h=bB h id (.cells [.i e])) mixed an hG kr ?_ hr) ?_
    ·simp only[go_sem,hob,sG (h:=h) (i:=id) (o:=.cells [.v (.int .i64 e)]) rfl hfw,gE,Nat.reduceBEq,Nat.reduceLeDiff,Nat.reduceAdd,true_and,and_true,true_imp_iff]
    ·rintro ex a' w' ⟨rfl,own1,st1,hst1,hh⟩;have hd0:a'.defers=[]:=by
      obtain⟨ms,Ds,q0,q1,q2,q3⟩:=hst1.defers;cases Ds with
      |nil=>rw[q0];simp at q1;simp[q1]
      |cons D r=>
       obtain⟨m1,m2,_⟩:=q3 D (by simp);have:=hp.foreign D m2;simp only at m1;omega
     refine⟨hd0,.panicking [{ v:=.iface 170 (.int .i64 e),recovered:=true}],?_,_,by simp[results,hres];rfl,⟨_,rfl⟩,rfl,own1,hh▸hst1.hp,hst1.fr⟩;cases c₀;simp_all
  ·cases hx
attribute [go_sem] gE
abbrev SV.u (n:Nat):SV:=.v (.int .u64 (n:Int))
def yU (ps:List (Nat×(List SV→Option Con)))(os:List (Nat×(List SV→List Ob→Option HCon)))(Y:List SV→Res→Option YCon):Cons:=⟨mkP ps,mkO os,Y⟩
@[go_sem] theorem Ww {ps:List (Nat×(List SV→Option Con))}{os:List (Nat×(List SV→List Ob→Option HCon))}{Y:List SV→Res→Option YCon}:(yU ps os Y).p=mkP ps:=(rfl)
@[go_sem] theorem Wx {ps:List (Nat×(List SV→Option Con))}{os:List (Nat×(List SV→List Ob→Option HCon))}{Y:List SV→Res→Option YCon}:(yU ps os Y).o=mkO os:=(rfl)
@[go_sem] theorem Wy {ps:List (Nat×(List SV→Option Con))}{os:List (Nat×(List SV→List Ob→Option HCon))}{Y:List SV→Res→Option YCon}:(yU ps os Y).y=Y:=(rfl)
theorem wo {P:Program}{ps:List (Nat×(List SV→Option Con))}{os:List (Nat×(List SV→List Ob→Option HCon))}{Y:List SV→Res→Option YCon}(h1:∀ x∈ps,FnOk P x.1 x.2)(h2:∀ x∈os,FnOkO P x.1 x.2)(h3:YOk P Y):ConsOk P (yU ps os Y):=⟨Ev ps h1,Ew os h2,h3⟩
def C90:List SV→List Ob→Option HCon:=fun l h=>noH h ((pU fun n=>pU fun d=>pE { α:=Unit,pre:=True,post:=fun _=>True,res:=fun _=>.ret (.fn 186 [] [.ptr 0 0,.ptr 1 0]) [.cells [.v (.int .u64 n)],.cells [.v (.int .u64 d)]]}) l)
theorem Pv:FnOkO Tryz.prog 185 C90:=by
 have hG:ConsOk Tryz.prog (mkG [] []):=ay (by simp) (by simp);refine od mixed an hG (fn:=Tryz.f185) (c:=ae Tryz.f185) kr kr kr kr fun l o con h hp=>?_;unfold C90 at h;obtain⟨rfl,h⟩:=FJ h;obtain⟨n,l0,rfl,h0⟩:=AX h;obtain⟨d,l1,rfl,h1⟩:=AX h0;obtain⟨rfl,rfl⟩:=sF h1;refine⟨nbl rfl,L0,by unfold ae Tryz.f185;simp only[am,and_self],?_⟩;unfold ae Tryz.f185;simp only[go_sem,true_imp_iff,decide_eq_true_eq,Nat.reduceBEq,Nat.reduceLeDiff,Nat.reduceAdd,Nat.reduceSub,Nat.reduceMul,true_and,and_true,implies_true];refine⟨(),_,_,[0,1],rfl,?_⟩;simp only[go_sem,Nat.reduceBEq,Nat.reduceLeDiff,Nat.reduceAdd,true_and,and_true];exact⟨rfl,rfl⟩
def uC:Nat→Nat→Nat→List Nat
 |0,n,d=>if n=0 then []else [n,d]
 |f+1,n,d=>if n=0 then []else n::(if n % max d 1=0 then [d]else uC f d (n % max d 1))
def lC (f n d:Nat):List (List SV):=(uC f n d).map fun x=>[SV.u x]
theorem JB (f d:Nat):lC f 0 d=[]:=by cases f <;>rfl
theorem JD {f n d:Nat}(hn:n≠0)(hf:d≤f):∃ T,lC f n d=[SV.u n]::T∧(n % max d 1=0→T=[[SV.u d]])∧(n % max d 1≠0→∃ f',T=lC f' d (n % max d 1)∧n % max d 1≤f'∧n % max d 1<d):=by
 cases f with
 |zero=>
  have hd:d=0:=by omega
  subst hd;refine⟨[[SV.u 0]],by simp[lC,uC,hn],fun _=>rfl,fun h=>?_⟩;exfalso;apply h;simp[Nat.mod_one]
 |succ f=>
  by_cases h0:n % max d 1=0
  ·exact⟨[[SV.u d]],by simp[lC,uC,hn,h0],fun _=>rfl,fun h=>absurd h0 h⟩
  ·refine⟨lC f d (n % max d 1),by simp[lC,uC,hn,h0],fun h=>absurd h h0,fun _=>⟨f,rfl,?_⟩⟩;have hlt:n % max d 1<max d 1:=Nat.mod_lt _ (by omega);have hd:1≤d:=by
    rcases Nat.eq_zero_or_pos d with h|h
    ·subst h;exfalso;apply h0;simp[Nat.mod_one]
    ·exact h
   omega
theorem JE (n d:Nat):((n:Int).tmod (if(d:Int) <1 then 1 else(d:Int)))=((n % max d 1:Nat):Int):=by
 have e:(if(d:Int) <1 then(1:Int)else(d:Int))=((max d 1:Nat):Int):=by split <;>omega
 rw[e,Int.tmod_eq_emod_of_nonneg (by omega)];rfl
open Classical in
theorem Pw (n0 d0:Nat):AZ Tryz.prog 186 (fun y=>[y,.ptr 1 0,.ptr 2 0]) [.cells [SV.u n0],.cells [SV.u d0]] (lC d0 n0 d0):=by
 refine Jd (fun r hr hy=>?_) (fun args w=>by kernel_rfl);have hG:ConsOk Tryz.prog (yU [] [] (itY (lC d0 n0 d0) r)):=wo (by simp) (by simp) hy;refine⟨fun l h=>if l=[.os 0,.ptr 1 0,.ptr 2 0]∧h=[.ab (r 1),.cells [SV.u n0],.cells [SV.u d0]]then some { α:=Nat,pre:=True,post:=fun j=>j=0∨j=(lC d0 n0 d0).length+1,res:=fun j=>.ret (.tup []) [.ab (r j),.dead,.dead]}else none,
  ?_,_,if_pos ⟨rfl,rfl⟩,trivial,fun j hj=>⟨_,j,_,rfl,hj⟩⟩
 refine od mixed an hG (fn:=Tryz.f186) (c:=ae Tryz.f186) kr kr kr kr fun l o con h hp=>?_;split at h
 ·rename_i hlo;obtain⟨rfl,rfl⟩:=hlo;cases h;refine⟨nbl rfl,fun id st=>bif Nat.beq id 0 then some { α:=Nat×Bool,pre:=lk 0 st.t=.os 0∧lk 1 st.t=.ptr 1 0∧lk 2 st.t=.ptr 2 0∧st.h=[.ab (r 1),.cells [SV.u n0],.cells [SV.u d0]],post:=fun j=>j.1=0∨j.1=(lC d0 n0 d0).length+1,ex:=fun j=>bif j.2 then .ret else .normal,out:=fun j=>⟨[],[.ab (r j.1),.dead,.dead]⟩:LCon}else none,?_,?_⟩
  ·unfold ae Tryz.f186;simp only[am,true_and,and_true];refine xA mixed an hG kr fun st lc hC hp=>?_;simp only[go_sem,Nat.reduceBEq,Option.some.injEq]at hC;subst hC;obtain⟨t,h⟩:=st;dsimp only at hp;obtain⟨h0,h1,h2,rfl⟩:=hp;refine⟨Nat×Nat×Nat×Nat,fun x=>⟨[(0,.os 0),(1,.ptr 1 0),(2,.ptr 2 0)],[.ab (r (x.1+1)),.cells [SV.u x.2.2.1],.cells [SV.u x.2.2.2]]⟩,fun x=>x.2.2.2≤x.2.1∧(lC d0 n0 d0).drop x.1=lC x.2.1 x.2.2.1 x.2.2.2∧x.1≤(lC d0 n0 d0).length,fun x=>x.2.2.2,(0,d0,n0,d0),[0,1,2],⟨Nat.le_refl _,rfl,Nat.zero_le _⟩,Nat.le_refl _,?_,?_⟩
   ·simp only[go_sem,h0,h1,h2,Nat.reduceBEq,Nat.reduceLeDiff,Nat.reduceAdd,true_and,and_true];decide
   ·rintro⟨k,f,n,d⟩ ⟨hf,hdrop,hk⟩;simp only at hf hdrop hk;refine⟨L0,_,by simp only[am,and_self],fun _ _ q=>q,?_⟩;simp only[go_sem,Ey hr,true_imp_iff,decide_eq_true_eq,JE,Bool.false_eq_true,false_imp_iff,Nat.reduceBEq,Nat.reduceLeDiff,Nat.reduceAdd,Nat.reduceSub,Nat.reduceMul,true_and,and_true,implies_true];have hget:∀ (l:List (List SV)) (j:Nat),l=(lC d0 n0 d0).drop k→(lC d0 n0 d0)[k+j]? =l[j]?:=fun l j e=>by rw[e,List.getElem?_drop]
    have hlen:(lC f n d).length=(lC d0 n0 d0).length - k:=by rw[←hdrop,List.length_drop]
    refine⟨fun hn=>?_,fun hn=>?_⟩
    ·have hn':n≠0:=by simpa using hn
     obtain⟨T,e1,e2,e3⟩:=JD hn' hf;have hT:(lC d0 n0 d0).drop (k+1)=T:=by rw[←List.drop_drop,hdrop,e1];rfl
     have h0':=hget _ 0 hdrop.symm;rw[e1]at h0';have hk1:k+1≤(lC d0 n0 d0).length:=by
      have:=(List.getElem?_eq_some_iff.1 h0').1;omega
     refine⟨h0',⟨fun _=>⟨by split <;>omega,rfl,fun h2=>?_,fun h2=>?_⟩,fun h2=>?_⟩,?_⟩
     ·have h3:n % max d 1=0:=by
       have:=eq_of_beq h2;generalize n % max d 1=q at this ⊢;omega
      have hT2:=e2 h3;have hl2:(lC d0 n0 d0).length=k+2:=by
       have:=congrArg List.length hT;rw[hT2,List.length_drop]at this;simp at this;omega
      refine⟨?_,⟨(k+1+2,true),[0,1,2],.inr (by rw[hl2]),rfl,⟨rfl,rfl,rfl⟩,by simp[yP,Ax,wS,unp,ah,co,oH,pa]⟩,⟨(0,true),[0,1,2],.inl rfl,rfl,⟨rfl,rfl,rfl⟩,by simp[yP,Ax,wS,unp,ah,co,oH,pa]⟩⟩;have:(lC d0 n0 d0)[k+1]? =T[0]?:=by rw[←hT,List.getElem?_drop]
      rw[this,hT2];rfl
     ·have h3:n % max d 1≠0:=fun e=>by rw[e]at h2;simp at h2
      obtain⟨f',m1,m2,m3⟩:=e3 h3;exact⟨(k+1,f',d,n % max d 1),[0,1,2],⟨m2,by rw[hT,m1],hk1⟩,m3,⟨rfl,rfl,rfl⟩,by simp[yP,Ax,wS,unp,ah,co,oH,pa,nth,iJ,ren]⟩
     ·exact absurd hn (by rw[h2];simp)
     ·exact⟨(0,false),[0,1,2],.inl rfl,rfl,⟨rfl,rfl,rfl⟩,by simp[yP,Ax,wS,unp,ah,co,oH,pa]⟩
    ·have hn':n=0:=by simpa using hn
     subst hn';rw[JB]at hlen;simp at hlen;exact⟨by simpa using hn,(k+1,false),[0,1,2],.inr (by show k+1=_;omega),rfl,⟨rfl,rfl,rfl⟩,by simp[yP,Ax,wS,unp,ah,co,oH,pa]⟩
  ·unfold ae Tryz.f186;simp only[go_sem,true_imp_iff,decide_eq_true_eq,Nat.reduceBEq,Nat.reduceLeDiff,Nat.reduceAdd,Nat.reduceSub,Nat.reduceMul,true_and,and_true,implies_true];rintro⟨j,b⟩ hj;cases b
   ·simp only[go_sem];exact⟨j,_,_,[0,1,2],hj,rfl,Nat.le_refl 3,by simp only[go_sem,Nat.reduceBEq,Nat.reduceLeDiff,Nat.reduceAdd,true_and,and_true];decide⟩
   ·simp only[go_sem];exact⟨j,_,_,[0,1,2],hj,rfl,Nat.le_refl 3,by simp only[go_sem,Nat.reduceBEq,Nat.reduceLeDiff,Nat.reduceAdd,true_and,and_true];decide⟩
 ·cases h
def rq (n d:Nat):Nat:=if d=0 then n else(uC d n d).getLastD d
def C83:List SV→Option Con:=pU fun n=>pU fun d=>pE (.det (0≤n∧0≤d) (SV.u (rq n.toNat d.toNat)))
theorem JF:FnOk Tryz.prog 180 C83:=by
 have hG:ConsOk Tryz.prog (mkG [] [(185,C90)]):=ay (by simp) (by
  intro x hx;simp only[List.mem_cons,List.not_mem_nil,or_false]at hx;rcases hx with rfl;exact Pv)
 refine Et false mixed an hG (fn:=Tryz.f180) (c:=ae Tryz.f180) kr kr kr kr fun l con h hp=>?_;unfold C83 at h;obtain⟨n',l0,rfl,h0⟩:=AX h;obtain⟨d',l1,rfl,h1⟩:=AX h0;obtain⟨rfl,rfl⟩:=sF h1;clear h h0 h1;obtain⟨hn,hd⟩:=hp;obtain⟨n,rfl⟩:=Int.eq_ofNat_of_zero_le hn;obtain⟨d,rfl⟩:=Int.eq_ofNat_of_zero_le hd;refine⟨nbl rfl,fun id st=>bif Nat.beq id 0 then some { α:=Unit,pre:=st.h=[.cells [SV.u d],.cells [SV.u n],.cells [SV.u d]]∧lk 12 st.t=.fn 186 [] [.ptr 1 0,.ptr 2 0]∧lk 4 st.t=.ptr 0 0,post:=fun _=>True,ex:=fun _=>.normal,out:=fun _=>⟨[(4,.ptr 0 0)],[.cells [SV.u ((uC d n d).getLastD d)],.dead,.dead]⟩:LCon}else none,?_,?_⟩
 ·unfold ae Tryz.f180;simp only[am,true_and,and_true];refine CA mixed an hG (by decide) (by decide) kr kr fun st lc hC hp=>?_;simp only[go_sem,Nat.reduceBEq,Option.some.injEq]at hC;subst hC;obtain⟨t,h⟩:=st;dsimp only at hp;obtain⟨rfl,h12,h4⟩:=hp;refine⟨186,[.ptr 1 0,.ptr 2 0],lC d n d,Nat,[(4,.ptr 0 0)],fun v=>[.cells [SV.u v],.dead,.dead],fun k v=>v=((uC d n d).take k).getLastD d,fun _ _=>False,d,[0,1,2],h12,rfl,Nat.le_refl _,?_,Pw n d,?_,?_,fun _ h=>h.elim,fun _ _ h=>h.elim⟩
  ·show Sub [0,1,2] 3 ⟨t,[.cells [SV.u d],.dead,.dead]⟩ ⟨[(4,.ptr 0 0)],[.cells [SV.u d],.dead,.dead]⟩;simp only[go_sem,h4,Nat.reduceBEq,Nat.reduceLeDiff,Nat.reduceAdd,true_and,and_true];decide
  ·intro k y args hk hI;unfold lC at hk;rw[List.getElem?_map,Option.map_eq_some_iff]at hk;obtain⟨x,hx,rfl⟩:=hk;refine⟨rfl,L0,_,fun l=>by simp only[am],fun l=>by simp only[am],fun _ _ q=>q,?_⟩;show exec ts _ L0 _ ⟨[(13,SV.u x),(4,SV.ptr 0 0)],[.cells [SV.u y],.dead,.dead]⟩ _;simp only[go_sem,true_imp_iff,Nat.reduceBEq,Nat.reduceLeDiff,Nat.reduceAdd,true_and,and_true];refine⟨x,[0,1,2],?_,Nat.le_refl 3,?_⟩
   ·have hlt:=(List.getElem?_eq_some_iff.1 hx).1;have hx2:=(List.getElem?_eq_some_iff.1 hx).2;show x=((uC d n d).take (k+1)).getLastD d;rw[List.take_succ_eq_append_getElem hlt,hx2];simp[List.getLastD_concat]
   ·simp only[go_sem,Nat.reduceBEq,Nat.reduceLeDiff,Nat.reduceAdd,true_and,and_true];decide
  ·intro y hI;refine⟨(),[0,1,2],trivial,rfl,Nat.le_refl _,?_⟩;have hy:y=(uC d n d).getLastD d:=by rw[hI,List.take_of_length_le (by simp[lC])]
   subst hy;show Sub [0,1,2] 3 ⟨[(4,.ptr 0 0)],[.cells [SV.u _],.dead,.dead]⟩ ⟨[(4,.ptr 0 0)],[.cells [SV.u _],.dead,.dead]⟩;simp only[go_sem,Nat.reduceBEq,Nat.reduceLeDiff,Nat.reduceAdd,true_and,and_true];decide
 ·unfold ae Tryz.f180;simp only[go_sem,C90,true_imp_iff,decide_eq_true_eq,Bool.false_eq_true,false_imp_iff,Nat.reduceBEq,Nat.reduceLeDiff,Nat.reduceAdd,Nat.reduceSub,Nat.reduceMul,true_and,and_true,implies_true];refine⟨fun h=>?_,fun h _ _=>?_⟩
  ·have h':d=0:=by simpa using h
   simp[rq,h']
  ·have h':d≠0:=by simpa using h
   simp[rq,h']
attribute [go_sem] C83
end Go.Sx
end
section
namespace Go.Sx
open Go.RowKit
inductive NilS:St→St→Prop where
 |refl (st:St):NilS st st
 |cell {st:St} {t:List (Nat×SV)} {h:List Ob} {i j:Nat} {l:List SV} (o:Ob):NilS st ⟨t,h⟩→ah h i=.cells l→l[j]? =some (.v (.slice none 0 0))→((∃ k,o=.row k [])∨∃ k,o=.grid k [])→NilS st ⟨t,bB h i (.cells (l.set j (.os h.length)))++[o]⟩
 |slot {st:St} {t:List (Nat×SV)} {h:List Ob} {i:Nat} (o:Ob):NilS st ⟨t,h⟩→lk i t=.v (.slice none 0 0)→((∃ k,o=.row k [])∨∃ k,o=.grid k [])→NilS st ⟨(i,.os h.length)::t,h++[o]⟩
 |slotE {st:St} {t:List (Nat×SV)} {h:List Ob} {i:Nat} (k:Tag):NilS st ⟨t,h⟩→lk i t=.e0→NilS st ⟨(i,.os h.length)::t,h++[.row k []]⟩
section
variable {P:Program}{F:Nat→Prop}{w0:Bs}{N:Nat}
theorem zO (h:List Ob)(o:Ob):ah (h++[o]) h.length=o:=by rw[kZ,if_neg (by omega)];simp[ah]
theorem F6 {own:Own}{h:List Ob}{a:Act}{w:World}{t:List (Nat×SV)}(hr:StRel F w0 N own ⟨t,h⟩ a w)(o:Ob)(ho:(∃ k,o=.row k [])∨∃ k,o=.grid k []):
  ∃ own',StRel F w0 N own' ⟨t,h++[o]⟩ a w∧(∀ id hd,own id=some hd→own' id=some hd)∧own' h.length=some { v:=.slice none 0 0}:=by
 let own':Own:=fun id=>if id=h.length then some { v:=.slice none 0 0}else own id
 have hsub:∀ id hd,own id=some hd→own' id=some hd:=fun id hd e=>by
  have:id≠h.length:=by have:=hr.hp.dom id hd e;simp only at this;omega
  simp only[own',if_neg this];exact e
 have hinv:∀ id hd b,own' id=some hd→b∈hd.bs→own id=some hd:=fun id hd b e hb=>by
  by_cases hi:id=h.length
  ·simp only[own',if_pos hi,Option.some.injEq]at e;subst e;cases hb
  ·simpa only[own',if_neg hi]using e
 have hc:Carries F own w F own' w:=⟨fun id hd e=>⟨hd,hsub id hd e,.refl _⟩,fun b _ hn=>⟨by
  rintro (hf| ⟨id,hd,e,hb⟩)
  ·exact hn (.inl hf)
  ·exact hn (.inr ⟨id,hd,hinv id hd b e hb,hb⟩),rfl⟩⟩
 refine⟨own',⟨hr.size,hr.defers,⟨fun id hd e=>?_,hr.hp.foreign,fun id hd b e hb=>hr.hp.apart id hd b (hinv id hd b e hb) hb,fun i j hi hj b e1 e2 b1 b2=>hr.hp.inj i j hi hj b (hinv i hi b e1 b1) (hinv j hj b e2 b2) b1 b2,fun id hd b e hb=>hr.hp.lt id hd b (hinv id hd b e hb) hb,fun id hd=>?_⟩,
  ⟨fun id hd e=>?_,fun id hd b e hb=>hr.fr.base id hd b (hinv id hd b e hb) hb,hr.fr.os,hr.fr.tape,hr.fr.output,hr.fr.size,hr.fr.block⟩,fun t=>(hr.slots t).carry hc⟩,hsub,by simp[own']⟩
 ·simp only[List.length_append,List.length_cons,List.length_nil];by_cases hi:id=h.length
  ·omega
  ·simp only[own',if_neg hi]at e;have:=hr.hp.dom id hd e;simp only at this;omega
 ·simp only at hd ⊢;by_cases hi:id<h.length
  ·rw[kZ,if_pos hi]at hd ⊢;obtain⟨hd',e1,e2⟩:=hr.hp.obs id hd;exact⟨hd',hsub id hd' e1,e2.carry hc (Nat.le_refl _) fun _ _=>rfl⟩
  ·by_cases hi2:id=h.length
   ·subst hi2;rw[zO];refine⟨_,by simp[own'];rfl,?_⟩;rcases ho with⟨k,rfl⟩ | ⟨k,rfl⟩
    ·exact .inl ⟨none,rfl,rfl,rfl⟩
    ·exact .inl ⟨rfl,rfl,rfl,rfl⟩
   ·rw[jK (by simp;omega)]at hd;cases hd
 ·obtain⟨hd',e1,e2⟩:=hr.fr.ids id hd e;exact⟨hd',hsub id hd' e1,e2⟩
theorem JG {own:Own}{h:List Ob}{a:Act}{w:World}{t:List (Nat×SV)}(hr:StRel F w0 N own ⟨t,h⟩ a w)(k:Tag)(ad:Option Addr):
  ∃ own',StRel F w0 N own' ⟨t,h++[.row k []]⟩ a w∧(∀ id hd,own id=some hd→own' id=some hd)∧own' h.length=some { v:=.slice ad 0 0}:=by
 let own':Own:=fun id=>if id=h.length then some { v:=.slice ad 0 0}else own id
 have hsub:∀ id hd,own id=some hd→own' id=some hd:=fun id hd e=>by
  have:id≠h.length:=by have:=hr.hp.dom id hd e;simp only at this;omega
  simp only[own',if_neg this];exact e
 have hinv:∀ id hd b,own' id=some hd→b∈hd.bs→own id=some hd:=fun id hd b e hb=>by
  by_cases hi:id=h.length
  ·simp only[own',if_pos hi,Option.some.injEq]at e;subst e;cases hb
  ·simpa only[own',if_neg hi]using e
 have hc:Carries F own w F own' w:=⟨fun id hd e=>⟨hd,hsub id hd e,.refl _⟩,fun b _ hn=>⟨by
  rintro (hf| ⟨id,hd,e,hb⟩)
  ·exact hn (.inl hf)
  ·exact hn (.inr ⟨id,hd,hinv id hd b e hb,hb⟩),rfl⟩⟩
 refine⟨own',⟨hr.size,hr.defers,⟨fun id hd e=>?_,hr.hp.foreign,fun id hd b e hb=>hr.hp.apart id hd b (hinv id hd b e hb) hb,fun i j hi hj b e1 e2 b1 b2=>hr.hp.inj i j hi hj b (hinv i hi b e1 b1) (hinv j hj b e2 b2) b1 b2,fun id hd b e hb=>hr.hp.lt id hd b (hinv id hd b e hb) hb,fun id hd=>?_⟩,
  ⟨fun id hd e=>?_,fun id hd b e hb=>hr.fr.base id hd b (hinv id hd b e hb) hb,hr.fr.os,hr.fr.tape,hr.fr.output,hr.fr.size,hr.fr.block⟩,fun t=>(hr.slots t).carry hc⟩,hsub,by simp[own']⟩
 ·simp only[List.length_append,List.length_cons,List.length_nil];by_cases hi:id=h.length
  ·omega
  ·simp only[own',if_neg hi]at e;have:=hr.hp.dom id hd e;simp only at this;omega
 ·simp only at hd ⊢;by_cases hi:id<h.length
  ·rw[kZ,if_pos hi]at hd ⊢;obtain⟨hd',e1,e2⟩:=hr.hp.obs id hd;exact⟨hd',hsub id hd' e1,e2.carry hc (Nat.le_refl _) fun _ _=>rfl⟩
  ·by_cases hi2:id=h.length
   ·subst hi2;rw[zO];refine⟨_,by simp[own'];rfl,?_⟩;exact .inl ⟨ad,rfl,rfl,rfl⟩
   ·rw[jK (by simp;omega)]at hd;cases hd
 ·obtain⟨hd',e1,e2⟩:=hr.fr.ids id hd e;exact⟨hd',hsub id hd' e1,e2⟩
theorem NilS.rel {st st':St}(hn:NilS st st'){own:Own}{a:Act}{w:World}(hr:StRel F w0 N own st a w):∃ own',StRel F w0 N own' st' a w:=by
 induction hn with
 |refl=>exact⟨own,hr⟩
 | @slot t h i o _ hl ho ih=>
  obtain⟨own1,h1⟩:=ih;obtain⟨own2,h2,h3,h4⟩:=F6 h1 o ho;refine⟨own2,h2.size,h2.defers,h2.hp,h2.fr,fun u=>?_⟩;rw[kn];split
  ·rename_i e;subst e;have:=h1.slots i;rw[hl]at this;rw[bU this];exact .os (hd:= { v:=.slice none 0 0}) h4 rfl
  ·exact h2.slots u
 | @slotE t h i k _ hl ih=>
  obtain⟨own1,h1⟩:=ih;have hs:=h1.slots i;rw[hl]at hs;generalize hv:a.tmps.getD i undef=v at hs;cases hs with
  | @e0 ad=>
   obtain⟨own2,h2,h3,h4⟩:=JG h1 k ad;refine⟨own2,h2.size,h2.defers,h2.hp,h2.fr,fun u=>?_⟩;rw[kn];split
   ·rename_i e;subst e;rw[hv];exact .os (hd:= { v:=.slice ad 0 0}) h4 rfl
   ·exact h2.slots u
 | @cell t h i j l o _ hc hl ho ih=>
  obtain⟨own1,h1⟩:=ih;obtain⟨own2,h2,h3,h4⟩:=F6 h1 o ho;have hlt:i<h.length:=by
   rcases Nat.lt_or_ge i h.length with h'|h'
   ·exact h'
   ·rw[jK h']at hc;cases hc
  have hlen:(bB h i (.cells (l.set j (.os h.length)))).length=h.length:=by rw[bL,if_pos hlt]
  refine⟨own2,h2.size,h2.defers,⟨fun id hd e=>?_,h2.hp.foreign,h2.hp.apart,h2.hp.inj,h2.hp.lt,fun id hd=>?_⟩,h2.fr,h2.slots⟩
  ·have:=h2.hp.dom id hd e;simp only[List.length_append]at this ⊢;rw[hlen];exact this
  ·simp only at hd ⊢;have hob:=h2.hp.obs id;simp only at hob;by_cases hi:id<h.length
   ·rw[kZ,if_pos (by rw[hlen];exact hi)]at hd ⊢;rw[kZ,if_pos hi]at hob;rw[cj]at hd ⊢;by_cases hii:i=id
    ·subst hii;rw[if_pos rfl]at hd ⊢;rw[hc]at hob;obtain⟨hd',e1,b,cs,ty,m1,m2,m3,m4,m5⟩:=hob rfl;refine⟨hd',e1,b,cs,ty,m1,m2,m3,by simpa using m4,fun j' s hs=>?_⟩;rw[List.getElem?_set]at hs;by_cases hj:j=j'
     ·subst hj;rw[if_pos rfl]at hs;split at hs
      ·cases hs;have:=m5 j _ hl;rw[bU this];exact .os (hd:= { v:=.slice none 0 0}) h4 rfl
      ·cases hs
     ·rw[if_neg hj]at hs;exact m5 j' s hs
    ·rw[if_neg hii]at hd ⊢;exact hob hd
   ·rw[kZ,if_neg (by rw[hlen];exact hi),hlen]at hd ⊢;rw[kZ,if_neg hi]at hob;exact hob hd
end
section
variable {P:Program}{F:Nat→Prop}{w0:Bs}{ro:Option Nat}{nd:Nat}{ts:Tis}{G:Cons}{L:o_}{N:Nat}
theorem qe {ts:Tis}{G:Cons}{ro:Option Nat}{N:Nat}(hm:P.follows .mixedOrders=true)(hts:ts.ok P)(hG:ConsOk P G){id:Nat}{c:Code}(hc:b_ N c=true){C:St→Option LCon}
  (h:∀ st lc,C st=some lc→lc.pre→∃ (σ:Type) (D:σ→St) (I:σ→Prop) (m:σ→Nat) (x0:σ) (stN:St) (js:List Nat),I x0∧NilS st stN∧st.h.length≤(D x0).h.length∧Sub js st.h.length stN (D x0)∧
   ∀ x,I x→∃ L Qx,am P ro N L c∧(∀ e st',Qx e st'→oJ D I m st.h.length x id (fun e st'=>∃ r js,lc.post r∧lc.ex r=e∧st.h.length≤(lc.out r).h.length∧Sub js st.h.length st' (lc.out r)) e st')∧exec ts G L c (D x) Qx):gn P ro N id (.loop c) C:=by
 intro nd F w0 st lc hC hpre own a w hr;obtain⟨σ,D,I,m,x0,stN,js,h1,hN,h2,h3,h4⟩:=h st lc hC hpre;obtain⟨ownN,hrN⟩:=hN.rel hr;refine wpIn_mono (zI hm hts hG hc D I m st.h.length hr.base_lt _ h4 x0 h1 _ a w (hrN.sub h3 hr.base_lt h2)) ?_;intro e a' w' hq;have key:∀ ex F1 own' st',StRel F1 w0 N own' st' a' w'→(∃ r js,lc.post r∧lc.ex r=ex∧st.h.length≤(lc.out r).h.length∧Sub js st.h.length st' (lc.out r))→∃ own2 st2,StRel F1 w0 N own2 st2 a' w'∧∃ r,lc.post r∧ex=lc.ex r∧st2=lc.out r:=by
  rintro ex F1 own' st' hst ⟨r,js,q1,q2,q3,q4⟩;exact⟨_,_,hst.sub q4 hr.base_lt q3,r,q1,q2.symm,rfl⟩
 cases e with
 |normal=>obtain⟨F1,own',st',h0,k1,k2⟩:=hq;obtain⟨own2,st2,q1,q2⟩:=key _ F1 own' st' k1 k2;exact⟨F1,own2,st2,h0,q1,q2⟩
 |exit j=>obtain⟨F1,own',st',h0,k1,k2⟩:=hq;obtain⟨own2,st2,q1,q2⟩:=key _ F1 own' st' k1 k2;exact⟨F1,own2,st2,h0,q1,q2⟩
 |ret=>obtain⟨F1,own',st',h0,k1,k2⟩:=hq;obtain⟨own2,st2,q1,q2⟩:=key _ F1 own' st' k1 k2;exact⟨F1,own2,st2,h0,q1,q2⟩
 |panic ch=>
  obtain⟨x,F1,own',st',h0,k1,k2,k3⟩:=hq;obtain⟨own2,st2,q1,q2⟩:=key _ F1 own' st' k1 k2;exact⟨x,F1,own2,st2,h0,q1,q2,k3⟩
 |_=>exact hq.elim
end
section
variable {P:Program}{ρ σ:Type}
def gh (st2:St)(n0:Nat)(st:St):Prop:= ∃ js,n0≤st2.h.length∧Sub js n0 st st2
theorem A2 {st2 st:St}{n0:Nat}(js:List Nat)(h1:n0≤st2.h.length)(h2:Sub js n0 st st2):gh st2 n0 st:=⟨js,h1,h2⟩
def oe (D:Nat→σ→St)(n0 k:Nat)(st:St):ρ⊕σ→Prop
 | .inl _=>False
 | .inr s'=>gh (D (k+1) s') n0 st
def jO (exE:ρ→Ex)(outE:ρ→St)(n0:Nat)(e:Ex)(st:St):ρ⊕σ→Prop
 | .inl x=>exE x=e∧gh (outE x) n0 st
 | .inr _=>False
def cE (step:Nat→σ→ρ⊕σ)(n:Nat)(exE:ρ→Ex)(outE:ρ→St)(outN:σ→St)(D:Nat→σ→St)(n0 id k:Nat)(s:σ):Ex→St→Prop
 | .normal,st=>k<n∧oe D n0 k st (step k s)
 | .exit j,st=>bif Nat.beq j id then(n≤k→gh (outN s) n0 st)∧(k<n→jO exE outE n0 .normal st (step k s))else k<n∧jO exE outE n0 (.exit j) st (step k s)
 | .ret,st=>k<n∧jO exE outE n0 .ret st (step k s)
 | .pan x,st=>k<n∧jO exE outE n0 (.pan x) st (step k s)
variable {step:Nat→σ→ρ⊕σ}{n n0 id k j:Nat}{exE:ρ→Ex}{outE:ρ→St}{outN:σ→St}{D:Nat→σ→St}{s s':σ}{st:St}{x:Value}{e:Ex}{y:ρ}
@[go_sem] theorem RV:oe (ρ:=ρ) D n0 k st (.inr s')=gh (D (k+1) s') n0 st:=(rfl)
@[go_sem] theorem TO:jO (σ:=σ) exE outE n0 e st (.inl y)=(exE y=e∧gh (outE y) n0 st):=(rfl)
@[go_sem] theorem RW:cE step n exE outE outN D n0 id k s .normal st=(k<n∧oe D n0 k st (step k s)):=(rfl)
@[go_sem] theorem VC:cE step n exE outE outN D n0 id k s (.exit j) st=bif Nat.beq j id then(n≤k→gh (outN s) n0 st)∧(k<n→jO exE outE n0 .normal st (step k s))else k<n∧jO exE outE n0 (.exit j) st (step k s):=(rfl)
@[go_sem] theorem Wz:cE step n exE outE outN D n0 id k s .ret st=(k<n∧jO exE outE n0 .ret st (step k s)):=(rfl)
@[go_sem] theorem WA:cE step n exE outE outN D n0 id k s (.pan x) st=(k<n∧jO exE outE n0 (.pan x) st (step k s)):=(rfl)
@[congr] theorem NR {r r':ρ⊕σ}(h:r=r'):oe D n0 k st r=oe D n0 k st r':=by rw[h]
end
def eX (p:Prop)(S:SV)(H:List Ob):HCon:= { α:=Unit,pre:=p,post:=fun _=>True,res:=fun _=>.ret S H}
def ED (n0:Nat)(S:SV)(H:List Ob)(h:List Ob):Option SV→Prop
 |some s=>gh ⟨[(0,S)],H⟩ n0 ⟨[(0,s)],h⟩
 |none=>False
def JH (n0:Nat)(rs:List ResultVar)(ts:Tis)(S:SV)(H:List Ob):Ex→St→Prop
 | .exit _,_=>False
 | .normal,st=>ED n0 S H st.h (lW (kh ts st rs))
 | .ret,st=>ED n0 S H st.h (lW (kh ts st rs))
 | .pan _,_=>False
section
variable {P:Program}{ts:Tis}{G:Cons}{n0:Nat}{S s:SV}{H h:List Ob}{rs:List ResultVar}{st:St}{x:Value}{j:Nat}
@[go_sem] theorem RX:ED n0 S H h (some s)=gh ⟨[(0,S)],H⟩ n0 ⟨[(0,s)],h⟩:=(rfl)
@[go_sem] theorem Mw:JH n0 rs ts S H .normal st=ED n0 S H st.h (lW (kh ts st rs)):=(rfl)
@[go_sem] theorem RY:JH n0 rs ts S H .ret st=ED n0 S H st.h (lW (kh ts st rs)):=(rfl)
@[go_sem high] theorem Px {p:Prop}{ids:List Nat}{d:Option Nat}{K:St→Prop}{Z:Value→St→Prop}:tb ids d st K Z (some (eX p S H))=(p∧DL ids d st K Z (.ret S H)):=by
 show(p∧∀ r:Unit,True→DL ids d st K Z (.ret S H))=_;simp
def hCR (t:Tag)(k:List t.T→Option HCon):List Ob→Option HCon
 | [.cells [.os 1],.row k' l] =>if h:k'=t then k (h▸l)else none
 |_=>none
open Classical in
noncomputable def pQ {α:Type 1}(X:SV)(k:List SV→Option α):List SV→Option α
 |s::r=>if s=X then k r else none
 | [] =>none
@[go_sem] theorem pQ_mk {α:Type 1}{X:SV}{k:List SV→Option α}{r:List SV}:pQ X k (X::r)=k r:=by simp[pQ]
theorem xH {α:Type 1}{X:SV}{k:List SV→Option α}{l:List SV}{c:α}(h:pQ X k l=some c):∃ r,l=X::r∧k r=some c:=by
 unfold pQ at h;split at h
 ·split at h
  ·rename_i e;subst e;exact⟨_,rfl,h⟩
  ·cases h
 ·cases h
def pXR {α:Type 1}(t:Tag)(k:List t.T→List SV→Option α):List SV→Option α
 | .ep [.rs k' l] 0::r=>zL t k r k' l
 |_=>none
@[go_sem] theorem WB {α:Type 1}{t:Tag}{k:List t.T→List SV→Option α}{l:List t.T}{r:List SV}:pXR t k (.ep [.rs t l] 0::r)=k l r:=by simp[pXR,zL]
theorem Mx {α:Type 1}{t:Tag}{k:List t.T→List SV→Option α}{l:List SV}{c:α}(h:pXR t k l=some c):∃ x r,l=.ep [.rs t x] 0::r∧k x r=some c:=by
 unfold pXR at h;split at h
 ·rename_i k' l' r;unfold zL at h;split at h
  ·rename_i e;subst e;exact⟨_,_,rfl,h⟩
  ·cases h
 ·cases h
theorem fY (hm:P.follows .mixedOrders=true) (hts:ts.ok P) (hG:ConsOk P G) {f:FuncId} {fn:Func} {c:Code} (hf:P.funcs[f]? =some fn) (hb:fn.body=some c) (hname:(fn.name== "runtime.NumGoroutine")=false)
  (hc:b_ fn.ntmps c=true) {C:List SV→List Ob→Option HCon}
  (h:∀ l o con,C l o=some con→∃ p S H,con=eX p S H∧(p→l.length≤fn.ntmps∧∃ L,am P none fn.ntmps L c∧exec ts G L c ⟨jH 0 l,o⟩ (JH o.length fn.results.toList ts S H))):FnOkO P f C:=by
 refine xz hm hts hG hf hb hname hc fun l o con hC hp=>?_;obtain⟨p,S,H,rfl,h2⟩:=h l o con hC;obtain⟨h3,L,h4,h5⟩:=h2 hp;refine⟨h3,L,_,h4,fun e st hq=>?_,h5⟩;cases e with
 |normal=>
  change ED _ _ _ _ _ at hq;show tf _ _ _ _;cases hs:lW (kh ts st fn.results.toList)with
  |none=>rw[hs]at hq;exact hq.elim
  |some s=>rw[hs]at hq;obtain⟨js,q1,q2⟩:=hq;exact⟨(),S,H,js,trivial,rfl,q1,q2⟩
 |ret=>
  change ED _ _ _ _ _ at hq;show tf _ _ _ _;cases hs:lW (kh ts st fn.results.toList)with
  |none=>rw[hs]at hq;exact hq.elim
  |some s=>rw[hs]at hq;obtain⟨js,q1,q2⟩:=hq;exact⟨(),S,H,js,trivial,rfl,q1,q2⟩
 |exit j=>exact hq.elim
 |pan x=>exact hq.elim
end
end Go.Sx
end
section
namespace Go.Sx
attribute [go_sem] true_imp_iff false_imp_iff Bool.false_eq_true Int.toNat_natCast Int.toNat_zero true_and and_true and_self implies_true forall_const
theorem cl {p:Prop}(h:p:=by(first|done|(repeat' (first|with_reducible refine And.intro ?_ ?_|((with_reducible show _≠_);first|assumption|omega|(simp_all [eW,fA];done) |grind) |with_reducible intro _)) <;>(first|done|with_reducible exact Empty.elim ‹Empty› |with_reducible assumption|rfl|omega|assumption|(simp only[*,cond_true,cond_false,Bool.not_true,Bool.not_false,go_sem,Nat.reduceBEq,Nat.reduceLeDiff,Nat.reduceAdd,Nat.reduceSub,Nat.reduceMul,Int.reduceLE,Int.reduceLT,Int.reduceToNat,Int.reduceNeg,reduceCtorEq];done) |(simp only[*,cond_true,cond_false,Bool.not_true,Bool.not_false,go_sem,Nat.reduceBEq,Nat.reduceLeDiff,Nat.reduceAdd,Nat.reduceSub,Nat.reduceMul,Int.reduceLE,Int.reduceLT,Int.reduceToNat,Int.reduceNeg,reduceCtorEq];(repeat' (first|with_reducible refine And.intro ?_ ?_|((with_reducible show _≠_);first|assumption|omega|(simp_all [eW,fA];done) |grind) |with_reducible intro _)) <;>(first|done|assumption|rfl|omega|(simp_all [eW,fA];done))) |(simp_all [okI,eW,fA];done) |grind))):p:=h
theorem cl2 {p:Prop}(h:p:=by(first|done|(repeat' (first|with_reducible refine And.intro ?_ ?_|((with_reducible show _≠_);first|assumption|omega|(simp_all [eW,fA];done) |grind) |with_reducible intro _)) <;>(first|done|with_reducible exact Empty.elim ‹Empty› |with_reducible assumption|rfl|omega|assumption|(simp only[*,go_sem,Nat.reduceBEq,Nat.reduceLeDiff,Nat.reduceAdd,Nat.reduceSub,Nat.reduceMul,Int.reduceLE,Int.reduceLT,Int.reduceToNat,Int.reduceNeg,reduceCtorEq];done) |(simp_all [eW,fA];done)))):p:=h
inductive JL:List Nat→Prop
 |mk (l:List Nat):JL l
theorem jl (l:List Nat):JL l:=.mk l
theorem fk {st2 st:St}{n0:Nat}{js:List Nat}(_:JL js)(h1:n0≤st2.h.length:=by(first|(show _≤_;decide) |(simp only[*,go_sem,Nat.reduceBEq,Nat.reduceLeDiff,Nat.reduceAdd,Nat.reduceSub,Nat.reduceMul,Int.reduceLE,Int.reduceLT,Int.reduceToNat,Int.reduceNeg,reduceCtorEq];done) |(simp only[*,go_sem,Nat.reduceBEq,Nat.reduceLeDiff,Nat.reduceAdd,Nat.reduceSub,Nat.reduceMul,Int.reduceLE,Int.reduceLT,Int.reduceToNat,Int.reduceNeg,reduceCtorEq];(repeat' (first|with_reducible refine And.intro ?_ ?_|((with_reducible show _≠_);first|assumption|omega|(simp_all [eW,fA];done) |grind) |with_reducible intro _)) <;>(first|rfl|decide|assumption|omega|(simp_all [eW,fA];done)))))(h2:Sub js n0 st st2:=by(first|(show _≤_;decide) |(simp only[*,go_sem,Nat.reduceBEq,Nat.reduceLeDiff,Nat.reduceAdd,Nat.reduceSub,Nat.reduceMul,Int.reduceLE,Int.reduceLT,Int.reduceToNat,Int.reduceNeg,reduceCtorEq];done) |(simp only[*,go_sem,Nat.reduceBEq,Nat.reduceLeDiff,Nat.reduceAdd,Nat.reduceSub,Nat.reduceMul,Int.reduceLE,Int.reduceLT,Int.reduceToNat,Int.reduceNeg,reduceCtorEq];(repeat' (first|with_reducible refine And.intro ?_ ?_|((with_reducible show _≠_);first|assumption|omega|(simp_all [eW,fA];done) |grind) |with_reducible intro _)) <;>(first|rfl|decide|assumption|omega|(simp_all [eW,fA];done))))):gh st2 n0 st:=A2 js h1 h2
theorem fk2 {st2 st:St}{n0:Nat}{js:List Nat}(_:JL js)(h1:n0≤st2.h.length:=by(first|(show _≤_;decide) |(simp only[go_sem,Nat.reduceBEq,Nat.reduceLeDiff,Nat.reduceAdd,Nat.reduceSub,Nat.reduceMul,Int.reduceLE,Int.reduceLT,Int.reduceToNat,Int.reduceNeg,reduceCtorEq];(repeat' (first|with_reducible refine And.intro ?_ ?_|((with_reducible show _≠_);first|assumption|omega|(simp_all [eW,fA];done) |grind) |with_reducible intro _)) <;>(first|rfl|decide|assumption|omega|(simp_all [eW,fA];done)))))(h2:Sub js n0 st st2:=by(first|(show _≤_;decide) |(simp only[go_sem,Nat.reduceBEq,Nat.reduceLeDiff,Nat.reduceAdd,Nat.reduceSub,Nat.reduceMul,Int.reduceLE,Int.reduceLT,Int.reduceToNat,Int.reduceNeg,reduceCtorEq];(repeat' (first|with_reducible refine And.intro ?_ ?_|((with_reducible show _≠_);first|assumption|omega|(simp_all [eW,fA];done) |grind) |with_reducible intro _)) <;>(first|rfl|decide|assumption|omega|(simp_all [eW,fA];done))))):gh st2 n0 st:=A2 js h1 h2
theorem cg0 {α:Type _}{p:α→Prop}:∀ x∈([]:List α),p x:=fun _ h=>by cases h
theorem cgc {α:Type _}{p:α→Prop}{a:α}{l:List α}(h:p a)(t:∀ x∈l,p x):∀ x∈a::l,p x:=fun x hx=>by
 rcases List.mem_cons.1 hx with rfl|hx
 ·exact h
 ·exact t x hx
attribute [go_sem] if_true
end Go.Sx
end
section
namespace Go.Sx
open Go.RowKit
open IntKind (i64)
section
variable {P:Program}
end
def okL {ρ σ τ:Type}(step:τ→σ→ρ⊕σ)(p:τ→σ→Prop):List τ→σ→Prop
 | [],_=>True
 |x::l,s=>p x s∧∀ s',step x s=.inr s'→okL step p l s'
theorem F7 {ρ σ τ:Type}{step:τ→σ→ρ⊕σ}{p:τ→σ→Prop}:∀ (l:List τ) (s:σ),(∀ x∈l,∀ s,p x s)→okL step p l s
 | [],_,_=>trivial
 |x::l,s,h=>⟨h x (by simp) s,fun s' _=>F7 l s' fun y hy=>h y (by simp[hy])⟩
section
variable {ρ σ τ:Type}
def rgN (T:List (Nat×SV))(H:σ→List Ob)(n0:Nat)(st:St):ρ⊕σ→Prop
 | .inl _=>False
 | .inr s'=>gh ⟨T,H s'⟩ n0 ⟨T,st.h⟩
def rgX (exE:ρ→Ex)(T:List (Nat×SV))(Hy:ρ→List Ob)(n0:Nat)(e:Ex)(st:St):ρ⊕σ→Prop
 | .inl y=>exE y=e∧gh ⟨T,Hy y⟩ n0 ⟨T,st.h⟩
 | .inr _=>False
def rgQ (step:τ→σ→ρ⊕σ)(exE:ρ→Ex)(T:List (Nat×SV))(H:σ→List Ob)(Hy:ρ→List Ob)(n0 id:Nat)(x:τ)(s:σ):Ex→St→Prop
 | .normal,st=>rgN T H n0 st (step x s)
 | .exit j,st=>rgX exE T Hy n0 (bif Nat.beq j id then .normal else .exit j) st (step x s)
 | .ret,st=>rgX exE T Hy n0 .ret st (step x s)
 | .pan _,_=>False
variable {step:τ→σ→ρ⊕σ}{exE:ρ→Ex}{T:List (Nat×SV)}{H:σ→List Ob}{Hy:ρ→List Ob}{n0 id j:Nat}{x:τ}{s s':σ}{y:ρ}{st:St}{e:Ex}
@[go_sem] theorem VD:rgN (ρ:=ρ) T H n0 st (.inr s')=gh ⟨T,H s'⟩ n0 ⟨T,st.h⟩:=(rfl)
@[go_sem] theorem VE:rgX (σ:=σ) exE T Hy n0 e st (.inl y)=(exE y=e∧gh ⟨T,Hy y⟩ n0 ⟨T,st.h⟩):=(rfl)
@[go_sem] theorem Py:rgQ step exE T H Hy n0 id x s .normal st=rgN T H n0 st (step x s):=(rfl)
@[go_sem] theorem VF:rgQ step exE T H Hy n0 id x s .ret st=rgX exE T Hy n0 .ret st (step x s):=(rfl)
@[go_sem] theorem TP:rgQ step exE T H Hy n0 id x s (.exit j) st=rgX exE T Hy n0 (bif Nat.beq j id then .normal else .exit j) st (step x s):=(rfl)
@[congr] theorem RZ {r r':ρ⊕σ}(h:r=r'):rgN T H n0 st r=rgN T H n0 st r':=by rw[h]
end
section
variable {P:Program}{ts:Tis}{G:Cons}{N:Nat}
theorem uD (hm:P.follows .mixedOrders=true)(hts:ts.ok P)(hG:ConsOk P G){id:Nat}{g:Operand}{ps:Array Tmp}{assign body:Code}{C:St→Option LCon}
  (hpn:ps.toList.Nodup) (hpN:∀ p∈ps.toList,p<N) (hca:b_ N assign=true) (hcb:b_ N body=true)
  (h:∀ st lc,C st=some lc→lc.pre→∃ (f:FuncId) (caps:List SV) (τ ρ σ:Type) (l:List τ) (mk:τ→List SV) (step:τ→σ→ρ⊕σ) (p:τ→σ→Prop) (pre:Prop) (s0:σ) (exE:ρ→Ex) (outE:ρ→St) (outN:σ→St) (T:List (Nat×SV)) (H:σ→List Ob) (Hy:ρ→List Ob) (js:List Nat),
   raw st.t g=.fn f [] caps∧lc=LC pre (ct step l s0) exE outE outN∧okL step p l s0∧st.h.length≤(H s0).length∧Sub js st.h.length ⟨st.t,qd (jq st caps) st.h⟩ ⟨T,H s0⟩∧
   AZ P f (fun y=>y::caps.map (ren (EA (jq st caps)) 3)) (Cz (jq st caps) st.h) (l.map mk)∧
   (∀ x s,p x s→(mk x).length=ps.size∧∃ L,(∀ l,am P (some l) N L assign)∧(∀ l,am P (some l) N L body)∧exec ts G L assign ⟨psT ps.toList (mk x)++T,H s⟩ (fun e st1=>e=.normal∧exec ts G L body st1 (rgQ step exE T H Hy st.h.length id x s)))∧
   (∀ s,gh (outN s) st.h.length ⟨T,H s⟩)∧∀ y,gh (outE y) st.h.length ⟨T,Hy y⟩):gn P none N id (.rangeFunc g ps assign body) C:=by
 refine CA hm hts hG hpn hpN hca hcb fun st lc hC hp=>?_;obtain⟨f,caps,τ,ρ,σ,l,mk,step,p,pre,s0,exE,outE,outN,T,H,Hy,js,h1,rfl,h2,h3,h4,h5,h6,h7,h8⟩:=h st lc hC hp;refine⟨f,caps,l.map mk,σ⊕ρ,T,fun z=>match z with| .inl s=>H s| .inr y=>Hy y,fun k z=>match z with| .inl s=>ct step (l.drop k) s=ct step l s0∧okL step p (l.drop k) s| .inr _=>False,
  fun e z=>match z with| .inl _=>False| .inr y=>ct step l s0=.inl y∧(match e with| .ret=>exE y=.ret| .exit j=>exE y=(bif Nat.beq j id then .normal else .exit j) |_=>False),.inl s0,js,h1,⟨rfl,h2⟩,h3,h4,h5,?_,?_,?_,?_⟩
 ·rintro k z args hk hI;cases z with
  |inr y=>exact hI.elim
  |inl s=>
   obtain⟨hrun,hok⟩:=hI;rw[List.getElem?_map,Option.map_eq_some_iff]at hk;obtain⟨x,hx,rfl⟩:=hk;have hlt:=(List.getElem?_eq_some_iff.1 hx).1;have hd:l.drop k=x::l.drop (k+1):=by
    rw[List.drop_eq_getElem_cons hlt];congr 1;exact(List.getElem?_eq_some_iff.1 hx).2
   rw[hd]at hrun hok;obtain⟨hl,L,hla,hlb,hex⟩:=h6 x s hok.1;refine⟨hl,L,_,hla,hlb,?_,hex⟩;intro e st' hq;have fin:∀ e',rgX exE T Hy st.h.length e' st' (step x s)→∃ y js,exE y=e'∧ct step l s0=.inl y∧st.h.length≤(Hy y).length∧Sub js st.h.length ⟨T,st'.h⟩ ⟨T,Hy y⟩:=by
    intro e' q;cases hs:step x s with
    |inr s'=>rw[hs]at q;exact q.elim
    |inl y=>
     rw[hs]at q;obtain⟨q1,js,q2,q3⟩:=q;simp only[ct,hs]at hrun;exact⟨y,js,q1,hrun.symm,q2,q3⟩
   cases e with
   |normal=>
    change rgN T H st.h.length st' (step x s)at hq;cases hs:step x s with
    |inl y=>rw[hs]at hq;exact hq.elim
    |inr s'=>
     rw[hs]at hq;obtain⟨js,q1,q2⟩:=hq;simp only[ct,hs]at hrun;exact⟨.inl s',js,⟨hrun,hok.2 s' hs⟩,q1,q2⟩
   |exit j=>
    obtain⟨y,js,q1,q2,q3,q4⟩:=fin _ hq;exact⟨.inr y,js,⟨q2,q1⟩,q3,q4⟩
   |ret=>
    obtain⟨y,js,q1,q2,q3,q4⟩:=fin _ hq;exact⟨.inr y,js,⟨q2,q1⟩,q3,q4⟩
   |pan x=>exact hq.elim
 ·intro z hI;cases z with
  |inr y=>exact hI.elim
  |inl s=>
   obtain⟨js,q1,q2⟩:=h7 s;have:=hI.1;rw[List.length_map,List.drop_length]at this;exact⟨.inr s,js,this,rfl,q1,q2⟩
 ·intro z hS;cases z with
  |inl s=>exact hS.elim
  |inr y=>
   obtain⟨js,q1,q2⟩:=h8 y;exact⟨.inl y,js,hS.1.symm,hS.2,q1,q2⟩
 ·intro j z hS;cases z with
  |inl s=>exact hS.elim
  |inr y=>
   obtain⟨js,q1,q2⟩:=h8 y;refine⟨.inl y,js,hS.1.symm,?_,q1,q2⟩;have:=hS.2;show exE y=_;rw[this];by_cases hj:j=id
   ·rw[if_pos hj];have hb:Nat.beq j id=true:=by rw[hj];exact Nat.beq_refl id
    rw[hb];rfl
   ·rw[if_neg hj];cases hb:Nat.beq j id with
    |true=>exact absurd (Nat.eq_of_beq_eq_true hb) hj
    |false=>rfl
end
section
variable {P:Program}{ρ σ τ:Type}
def oR:Ob→Option Nat
 | .mi _ _ _ c=>c
 |_=>none
def nxC (step:τ→σ→ρ⊕σ)(l:List τ)(d:τ)(D:List Nat→Option Nat→σ→St)(n0:Nat)(left:List Nat)(s:σ)(st:St):Option Nat→Prop
 |some j=>j∈left∧oe (fun _ s'=>D (left.erase j) (some j) s') n0 0 st (step (l.getD j d) s)
 |none=>False
def exC (step:τ→σ→ρ⊕σ)(l:List τ)(d:τ)(exE:ρ→Ex)(outE:ρ→St)(n0:Nat)(left:List Nat)(s:σ)(e:Ex)(st:St):Option Nat→Prop
 |some j=>j∈left∧jO exE outE n0 e st (step (l.getD j d) s)
 |none=>False
def cM (step:τ→σ→ρ⊕σ)(l:List τ)(d:τ)(exE:ρ→Ex)(outE:ρ→St)(outN:σ→St)(D:List Nat→Option Nat→σ→St)(n0 id it:Nat)(left:List Nat)(s:σ):Ex→St→Prop
 | .normal,st=>nxC step l d D n0 left s st (oR (ah st.h it))
 | .exit j,st=>bif Nat.beq j id then(left=[]→gh (outN s) n0 st)∧(left≠[]→exC step l d exE outE n0 left s .normal st (oR (ah st.h it)))else exC step l d exE outE n0 left s (.exit j) st (oR (ah st.h it))
 | .ret,st=>exC step l d exE outE n0 left s .ret st (oR (ah st.h it))
 | .pan x,st=>exC step l d exE outE n0 left s (.pan x) st (oR (ah st.h it))
variable {step:τ→σ→ρ⊕σ}{l:List τ}{d:τ}{n0 id it j:Nat}{exE:ρ→Ex}{outE:ρ→St}{outN:σ→St}{D:List Nat→Option Nat→σ→St}{left:List Nat}{s s':σ}{st:St}{x:Value}{e:Ex}{y:ρ}{t:List (Nat×SV)}{h:List Ob}
@[go_sem] theorem VG {m:Option Nat}{n:Nat}{left:List Nat}{c:Option Nat}:oR (.mi m n left c)=c:=(rfl)
@[go_sem] theorem TQ:nxC step l d D n0 left s st (some j)=(j∈left∧oe (fun _ s'=>D (left.erase j) (some j) s') n0 0 st (step (l.getD j d) s)):=(rfl)
@[go_sem] theorem TR:exC step l d exE outE n0 left s e st (some j)=(j∈left∧jO exE outE n0 e st (step (l.getD j d) s)):=(rfl)
@[go_sem] theorem R7:cM step l d exE outE outN D n0 id it left s .normal ⟨t,h⟩=nxC step l d D n0 left s ⟨t,h⟩ (oR (ah h it)):=(rfl)
@[go_sem] theorem VH:cM step l d exE outE outN D n0 id it left s (.exit j) ⟨t,h⟩=bif Nat.beq j id then(left=[]→gh (outN s) n0 ⟨t,h⟩)∧(left≠[]→exC step l d exE outE n0 left s .normal ⟨t,h⟩ (oR (ah h it)))else exC step l d exE outE n0 left s (.exit j) ⟨t,h⟩ (oR (ah h it)):=(rfl)
@[go_sem] theorem WC:cM step l d exE outE outN D n0 id it left s .ret ⟨t,h⟩=exC step l d exE outE n0 left s .ret ⟨t,h⟩ (oR (ah h it)):=(rfl)
@[go_sem] theorem WD:cM step l d exE outE outN D n0 id it left s (.pan x) ⟨t,h⟩=exC step l d exE outE n0 left s (.pan x) ⟨t,h⟩ (oR (ah h it)):=(rfl)
@[congr] theorem TS {st st':St}{e e':Ex}(h:st=st')(he:e=e'):cM step l d exE outE outN D n0 id it left s e st=cM step l d exE outE outN D n0 id it left s e' st':=by rw[h,he]
attribute [go_sem] Ir
@[go_sem] theorem TT {t:List (Nat×SV)}{h:List Ob}{d:Nat}{s:SV}:St.put ⟨t,h⟩ (some d) s=⟨(d,s)::t,h⟩:=(rfl)
@[go_sem] theorem TU {t:List (Nat×SV)}{h:List Ob}{s:SV}:St.put ⟨t,h⟩ none s=⟨t,h⟩:=(rfl)
def okM (step:τ→σ→ρ⊕σ)(p:τ→σ→Prop)(l:List τ)(s:σ):Prop:= ∀ L,L.Perm l→ct step L s=ct step l s∧okL step p L s
theorem qf (l:List τ)(d:τ):(List.range l.length).map (fun j=>l.getD j d)=l:=by
 apply List.ext_getElem
 ·simp
 ·intro i h1 h2;simp only[List.length_map,List.length_range]at h1;simp[List.getD_eq_getElem?_getD,List.getElem?_eq_getElem h1]
theorem Hs {ts:Tis}{G:Cons}{ro:Option Nat}{N:Nat}(hm:P.follows .mixedOrders=true)(hts:ts.ok P)(hG:ConsOk P G){id:Nat}{c:Code}(hc:b_ N c=true){C:St→Option LCon}
  (h:∀ st lc,C st=some lc→lc.pre→∃ (τ ρ σ:Type) (pre:Prop) (step:τ→σ→ρ⊕σ) (p:τ→σ→Prop) (l:List τ) (d:τ) (s0:σ) (exE:ρ→Ex) (outE:ρ→St) (outN:σ→St) (D:List Nat→Option Nat→σ→St) (it:Nat) (stN:St) (js:List Nat),
   lc=LC pre (ct step l s0) exE outE outN∧okM step p l s0∧NilS st stN∧st.h.length≤(D (List.range l.length) none s0).h.length∧Sub js st.h.length stN (D (List.range l.length) none s0)∧
   ∀ left cur s,(∀ j,j∈left→j<l.length∧p (l.getD j d) s)→∃ L,am P ro N L c∧exec ts G L c (D left cur s) (cM step l d exE outE outN D st.h.length id it left s)):gn P ro N id (.loop c) C:=by
 refine qe hm hts hG hc fun st lc hC hp=>?_;obtain⟨τ,ρ,σ,pre,step,p,l,d,s0,exE,outE,outN,D,it,stN,js,rfl,h1,hN,h2,h3,h4⟩:=h st lc hC hp;refine⟨List Nat×Option Nat×σ,fun x=>D x.1 x.2.1 x.2.2,fun x=>(∀ j,j∈x.1→j<l.length)∧∀ Q:List Nat,Q.Perm x.1→ct step (Q.map fun j=>l.getD j d) x.2.2=ct step l s0∧okL step p (Q.map fun j=>l.getD j d) x.2.2,fun x=>x.1.length,(List.range l.length,none,s0),stN,js,⟨fun j hj=>List.mem_range.1 hj,?_⟩,hN,h2,h3,?_⟩
 ·intro Q hQ;have:=hQ.map (fun j=>l.getD j d);rw[qf]at this;exact h1 _ this
 rintro⟨left,cur,s⟩ ⟨hlt0,hI⟩;simp only at hI hlt0;have hI':∀ j,j∈left→∀ Q:List Nat,Q.Perm (left.erase j)→ct step (l.getD j d::Q.map fun j=>l.getD j d) s=ct step l s0∧okL step p (l.getD j d::Q.map fun j=>l.getD j d) s:=by
  intro j hj Q hQ;have:=hI (j::Q) (((List.perm_cons_erase hj).trans (hQ.symm.cons j)).symm);simpa only[List.map_cons]using this
 obtain⟨L,hl,hex⟩:=h4 left cur s (fun j hj=>⟨hlt0 j hj,(hI' j hj _ (.refl _)).2.1⟩);refine⟨L,_,hl,?_,hex⟩;have hfin:∀ e st' o,exC step l d exE outE st.h.length left s e st' o→∃ r js,(LC pre (ct step l s0) exE outE outN).post r∧(LC pre (ct step l s0) exE outE outN).ex r=e∧st.h.length≤((LC pre (ct step l s0) exE outE outN).out r).h.length∧Sub js st.h.length st' ((LC pre (ct step l s0) exE outE outN).out r):=by
  intro e st' o q;cases o with
  |none=>exact q.elim
  |some j=>
   obtain⟨hj,q⟩:=q;have hrun:=(hI' j hj _ (.refl _)).1;cases hs:step (l.getD j d) s with
   |inr s'=>rw[hs]at q;exact q.elim
   |inl x=>
    rw[hs]at q;obtain⟨q2,js,q3,q4⟩:=q;simp only[ct,hs]at hrun;exact⟨.inl x,js,hrun,q2,q3,q4⟩
 intro e st' hq;cases e with
 |normal=>
  change nxC step l d D st.h.length left s st' (oR (ah st'.h it))at hq;cases ho:oR (ah st'.h it)with
  |none=>rw[ho]at hq;exact hq.elim
  |some j=>
   rw[ho]at hq;obtain⟨hj,hq⟩:=hq;cases hs:step (l.getD j d) s with
   |inl x=>rw[hs]at hq;exact hq.elim
   |inr s'=>
    rw[hs]at hq;obtain⟨js,q3,q4⟩:=hq;refine⟨(left.erase j,some j,s'),js,⟨fun i hi=>hlt0 i (List.mem_of_mem_erase hi),?_⟩,?_,q3,q4⟩
    ·intro Q hQ;have:=hI' j hj Q hQ;simp only[ct,hs,okL]at this;exact⟨this.1,this.2.2 s' rfl⟩
    ·have:=List.length_pos_of_mem hj;simp only[List.length_erase_of_mem hj];omega
 |exit j=>
  have hq':(bif Nat.beq j id then(left=[]→gh (outN s) st.h.length st')∧(left≠[]→exC step l d exE outE st.h.length left s .normal st' (oR (ah st'.h it)))else exC step l d exE outE st.h.length left s (.exit j) st' (oR (ah st'.h it))):=hq;show bif Nat.beq j id then _ else _;cases hb:Nat.beq j id with
  |true=>
   rw[hb]at hq';simp only[cond_true]at hq' ⊢;by_cases hlt:left=[]
   ·obtain⟨js,q3,q4⟩:=hq'.1 hlt;have hrun:=(hI [] (by rw[hlt])).1;simp only[List.map_nil,ct]at hrun;exact⟨.inr s,js,hrun,rfl,q3,q4⟩
   ·exact hfin _ _ _ (hq'.2 hlt)
  |false=>rw[hb]at hq';exact hfin _ _ _ hq'
 |ret=>exact hfin _ _ _ hq
 |pan x=>exact hfin _ _ _ hq
end
inductive NLoc where
 |slot (i:Nat) (o:Ob)
 |cell (i j:Nat) (o:Ob)
def JI (j n:Nat):Ob→Ob
 | .cells l=>.cells (l.set j (.os n))
 |o=>o
def My (j:Nat):Ob→Prop
 | .cells l=>nth l j=some (.v (.slice none 0 0))
 |_=>False
def xI:Ob→Prop
 | .row _ l=>l=[]
 | .grid _ l=>l=[]
 |_=>False
def Ht:SV→Ob→Prop
 | .v (.slice none 0 0),_=>True
 | .e0,.row _ _=>True
 |_,_=>False
def mkN:List NLoc→St→St
 | [],st=>st
 | .slot i o::r,⟨t,h⟩ =>mkN r ⟨(i,.os h.length)::t,h++[o]⟩
 | .cell i j o::r,⟨t,h⟩ =>mkN r ⟨t,bB h i (JI j h.length (ah h i))++[o]⟩
def okN:List NLoc→St→Prop
 | [],_=>True
 | .slot i o::r,⟨t,h⟩ =>Ht (lk i t) o∧xI o∧okN r ⟨(i,.os h.length)::t,h++[o]⟩
 | .cell i j o::r,⟨t,h⟩ =>My j (ah h i)∧xI o∧okN r ⟨t,bB h i (JI j h.length (ah h i))++[o]⟩
section
variable {i j m n:Nat}{o:Ob}{r:List NLoc}{t t2:List (Nat×SV)}{h h2:List Ob}{l:List SV}{ns:List NLoc}{js:List Nat}{st:St}
@[go_sem] theorem VI:mkN [] st=st:=(rfl)
@[go_sem] theorem TV:mkN (.slot i o::r) ⟨t,h⟩=mkN r ⟨(i,.os h.length)::t,h++[o]⟩:=(rfl)
@[go_sem] theorem TW:mkN (.cell i j o::r) ⟨t,h⟩=mkN r ⟨t,bB h i (JI j h.length (ah h i))++[o]⟩:=(rfl)
@[go_sem] theorem VJ:okN [] st=True:=(rfl)
@[go_sem] theorem TX:okN (.slot i o::r) ⟨t,h⟩=(Ht (lk i t) o∧xI o∧okN r ⟨(i,.os h.length)::t,h++[o]⟩):=(rfl)
@[go_sem] theorem TY:okN (.cell i j o::r) ⟨t,h⟩=(My j (ah h i)∧xI o∧okN r ⟨t,bB h i (JI j h.length (ah h i))++[o]⟩):=(rfl)
@[go_sem] theorem TZ:Ht (.v (.slice none 0 0)) o=True:=by cases o <;>rfl
@[go_sem] theorem VK {k:Tag}{m:List k.T}:Ht .e0 (.row k m)=True:=(rfl)
@[go_sem] theorem Pz:JI j n (.cells l)=.cells (l.set j (.os n)):=(rfl)
@[go_sem] theorem PA:My j (.cells l)=(nth l j=some (.v (.slice none 0 0))):=(rfl)
theorem F8 (h:xI o):(∃ k,o=.row k [])∨∃ k,o=.grid k []:=by
 cases o <;>simp only[xI]at h
 ·subst h;exact .inl ⟨_,rfl⟩
 ·subst h;exact .inr ⟨_,rfl⟩
theorem JJ {s:SV}{o:Ob}(h:Ht s o):s=.v (.slice none 0 0)∨(s=.e0∧∃ k l,o=.row k l):=by
 unfold Ht at h;split at h
 ·exact .inl rfl
 ·exact .inr ⟨rfl,_,_,rfl⟩
 ·exact h.elim
theorem qg:∀ (ns:List NLoc) (st0 st:St),NilS st0 st→okN ns st→NilS st0 (mkN ns st)
 | [],_,_,hn,_=>hn
 | .slot i o::r,st0,⟨t,h⟩,hn,hk=>by
  rcases JJ hk.1 with e| ⟨e,k,l,ho⟩
  ·exact qg r st0 _ (.slot o hn e (F8 hk.2.1)) hk.2.2
  ·have h2:=hk.2.1;have h3:=hk.2.2;rw[ho]at h2 h3;simp only[xI]at h2;subst h2;subst ho;exact qg r st0 _ (.slotE k hn e) h3
 | .cell i j o::r,st0,⟨t,h⟩,hn,hk=>by
  refine qg r st0 _ ?_ hk.2.2;have h1:=hk.1;cases ho:ah h i with
  |cells l=>
   rw[ho]at h1;simp only[My,dZ]at h1;exact .cell o hn ho h1 (F8 hk.2.1)
  |_=>rw[ho]at h1;exact h1.elim
def mC (m:Nat)(ns:List NLoc)(js:List Nat)(st d:St):Prop:=st.h.length=m∧okN ns st∧m≤d.h.length∧Sub js m (mkN ns st) d
@[go_sem] theorem R8:mC m ns js ⟨t,h⟩ ⟨t2,h2⟩=(h.length=m∧okN ns ⟨t,h⟩∧m≤h2.length∧Sub js m (mkN ns ⟨t,h⟩) ⟨t2,h2⟩):=(rfl)
end
theorem ai {P:Program}{ro:Option Nat}{N:Nat}(c:Code):am P ro N L0 c:=by
 induction c with
 |seq a b ha hb=>exact⟨ha,hb⟩
 |cond _ a b ha hb=>exact⟨ha,hb⟩
 |block id c hc=>
  cases c with
  |loop c=>exact fun _ _ _ _ _ h=>by cases h
  |rangeFunc f ps a b=>exact fun _ _ _ _ _ h=>by cases h
  |_=>exact hc
 |_=>trivial
section
variable {ρ σ τ:Type}
def pT:Nat→σ→Prop:=fun _ _=>True
@[go_sem] theorem WE {step:Nat→σ→ρ⊕σ}{n i:Nat}{s:σ}:okI step pT n i s=True:=eq_true (nj _ _ _ fun _ _ _ _=>trivial)
def LCR (m:Nat)(ns:List NLoc)(js:List Nat)(D:Nat→σ→St)(step:Nat→σ→ρ⊕σ)(p:Nat→σ→Prop)(n:Nat)(s0:σ)(B:Prop)(exE:ρ→Ex)(outE:ρ→St)(st:St):LCon:=
 LC (mC m ns js st (D 0 s0)∧B∧okI step p n 0 s0) (aq step n 0 s0) exE outE (D n)
def LCV (m:Nat)(ns:List NLoc)(js:List Nat)(D:Nat→σ→St)(step:Nat→σ→ρ⊕σ)(p:Nat→σ→Prop)(n:Nat)(s0:σ)(exE:ρ→Ex)(outE:ρ→St)(st:St):LCon:=
 LC (mC m ns js st (D 0 s0)∧okI step p n 0 s0∧∀ s,aq step n 0 s0≠ .inr s) (aq step n 0 s0) exE outE (D n)
def LCM (m:Nat)(ns:List NLoc)(js:List Nat)(D:List Nat→Option Nat→σ→St)(step:τ→σ→ρ⊕σ)(p:τ→σ→Prop)(l:List τ)(s0:σ)(exE:ρ→Ex)(outE:ρ→St)(outN:σ→St)(st:St):LCon:=
 LC (mC m ns js st (D (List.range l.length) none s0)∧okM step p l s0) (ct step l s0) exE outE outN
variable {m:Nat}{ns:List NLoc}{js:List Nat}{step:Nat→σ→ρ⊕σ}{p:Nat→σ→Prop}{n:Nat}{s0:σ}{B:Prop}{exE:ρ→Ex}{outE:ρ→St}{outN:σ→St}{st:St}{Q:Ex→St→Prop}
@[go_sem] theorem R9 {D:Nat→σ→St}:lR Q (some (LCR m ns js D step p n s0 B exE outE st))=((mC m ns js st (D 0 s0)∧B∧okI step p n 0 s0)∧(∀ x,aq step n 0 s0=.inl x→Q (exE x) (outE x))∧∀ s,aq step n 0 s0=.inr s→Q .normal (D n s)):=xE
@[go_sem] theorem R_ {D:Nat→σ→St}:lR Q (some (LCV m ns js D step p n s0 exE outE st))=((mC m ns js st (D 0 s0)∧okI step p n 0 s0∧∀ s,aq step n 0 s0≠ .inr s)∧∀ x,aq step n 0 s0=.inl x→Q (exE x) (outE x)):=by
 refine xE.trans ?_;apply propext;constructor
 ·rintro⟨h1,h2,_⟩;exact⟨h1,h2⟩
 ·rintro⟨h1,h2⟩;exact⟨h1,h2,fun s hs=>absurd hs (h1.2.2 s)⟩
@[go_sem] theorem Sa {D:List Nat→Option Nat→σ→St}{step:τ→σ→ρ⊕σ}{p:τ→σ→Prop}{l:List τ}:lR Q (some (LCM m ns js D step p l s0 exE outE outN st))=((mC m ns js st (D (List.range l.length) none s0)∧okM step p l s0)∧(∀ x,ct step l s0=.inl x→Q (exE x) (outE x))∧∀ s,ct step l s0=.inr s→Q .normal (outN s)):=xE
def cR (step:Nat→σ→ρ⊕σ)(exE:ρ→Ex)(outE:ρ→St)(D:Nat→σ→St)(m id k:Nat)(s:σ):Ex→St→Prop
 | .normal,st=>oe D m k st (step k s)
 | .exit j,st=>jO exE outE m (bif Nat.beq j id then .normal else .exit j) st (step k s)
 | .ret,st=>jO exE outE m .ret st (step k s)
 | .pan x,st=>jO exE outE m (.pan x) st (step k s)
def cZ (d:St)(m id:Nat):Ex→St→Prop
 | .exit j,st=>bif Nat.beq j id then gh d m st else False
 |_,_=>False
variable {D:Nat→σ→St}{id k j:Nat}{s:σ}{x:Value}{d:St}{e e':Ex}
@[go_sem] theorem Sb:cR step exE outE D m id k s .normal st=oe D m k st (step k s):=(rfl)
@[go_sem] theorem VL:cR step exE outE D m id k s (.exit j) st=jO exE outE m (bif Nat.beq j id then .normal else .exit j) st (step k s):=(rfl)
@[go_sem] theorem WF:cR step exE outE D m id k s .ret st=jO exE outE m .ret st (step k s):=(rfl)
@[go_sem] theorem WG:cR step exE outE D m id k s (.pan x) st=jO exE outE m (.pan x) st (step k s):=(rfl)
@[go_sem] theorem VM:cZ d m id (.exit j) st=bif Nat.beq j id then gh d m st else False:=(rfl)
@[congr] theorem T0 {st':St}(h:st=st')(he:e=e'):cR step exE outE D m id k s e st=cR step exE outE D m id k s e' st':=by rw[h,he]
@[congr] theorem T1 {st':St}(h:st=st')(he:e=e'):cZ d m id e st=cZ d m id e' st':=by rw[h,he]
@[congr] theorem NS {r r':ρ⊕σ}(h:r=r')(he:e=e'):jO exE outE m e st r=jO exE outE m e' st r':=by rw[h,he]
end
section
variable {P:Program}{ρ σ τ:Type}{ts:Tis}{G:Cons}{ro:Option Nat}{N:Nat}{id:Nat}{c:Code}{C:St→Option LCon}{m:Nat}{ns:List NLoc}{js:List Nat}{step:Nat→σ→ρ⊕σ}{p:Nat→σ→Prop}{n:Nat}{s0:σ}{exE:ρ→Ex}{outE:ρ→St}{D:Nat→σ→St}
theorem JK {n0:Nat}(hn0:n0=m){s:σ}{k:Nat}(hlt:k<n){I:Nat×σ→Prop}{μ:Nat×σ→Nat}{outN:σ→St}{pre:Prop}{run:ρ⊕σ}
  (hI:∀ s',step k s=.inr s'→I (k+1,s')∧μ (k+1,s') <μ (k,s)) (hx:∀ x,step k s=.inl x→run=.inl x):
  ∀ e st',cR step exE outE D m id k s e st'→oJ (fun x:Nat×σ=>D x.1 x.2) I μ n0 (k,s) id (fun e st'=>∃ r js,(LC pre run exE outE outN).post r∧(LC pre run exE outE outN).ex r=e∧n0≤((LC pre run exE outE outN).out r).h.length∧Sub js n0 st' ((LC pre run exE outE outN).out r)) e st':=by
 subst hn0;have hfin:∀ e st',jO exE outE n0 e st' (step k s)→∃ r js,(LC pre run exE outE outN).post r∧(LC pre run exE outE outN).ex r=e∧n0≤((LC pre run exE outE outN).out r).h.length∧Sub js n0 st' ((LC pre run exE outE outN).out r):=by
  intro e st' q;cases hs:step k s with
  |inr s'=>rw[hs]at q;exact q.elim
  |inl x=>
   rw[hs]at q;obtain⟨q2,js,q3,q4⟩:=q;exact⟨.inl x,js,(hx x hs).symm,q2,q3,q4⟩
 intro e st' hq;cases e with
 |normal=>
  change oe D n0 k st' (step k s)at hq;cases hs:step k s with
  |inl x=>rw[hs]at hq;exact hq.elim
  |inr s'=>
   rw[hs]at hq;obtain⟨js,q3,q4⟩:=hq;obtain⟨i1,i2⟩:=hI s' hs;exact⟨(k+1,s'),js,i1,i2,q3,q4⟩
 |exit j=>
  change jO exE outE n0 (bif Nat.beq j id then .normal else .exit j) st' (step k s)at hq;show bif Nat.beq j id then _ else _;cases hb:Nat.beq j id with
  |true=>rw[hb]at hq;exact hfin _ _ hq
  |false=>rw[hb]at hq;exact hfin _ _ hq
 |ret=>exact hfin _ _ hq
 |pan x=>exact hfin _ _ hq
theorem uE {B:Prop}(hm:P.follows .mixedOrders=true)(hts:ts.ok P)(hG:ConsOk P G)(hc:b_ N c=true)(hC:∀ st,C st=some (LCR m ns js D step p n s0 B exE outE st))
  (h:B→∀ k s,k<n→p k s→∃ L Q,am P ro N L c∧(∀ e st',Q e st'→cR step exE outE D m id k s e st')∧exec ts G L c (D k s) Q)
  (h2:B→∀ s,∃ Q,(∀ e st',Q e st'→cZ (D n s) m id e st')∧exec ts G L0 c (D n s) Q):gn P ro N id (.loop c) C:=by
 refine qe hm hts hG hc fun st lc hC' hp=>?_;rw[hC st]at hC';cases hC';obtain⟨⟨hlen,hok,hle,hsub⟩,hB,h1⟩:=hp;refine⟨Nat×σ,fun x=>D x.1 x.2,fun x=>x.1≤n∧okI step p (n - x.1) x.1 x.2∧aq step (n - x.1) x.1 x.2=aq step n 0 s0,fun x=>n - x.1,(0,s0),mkN ns st,js,⟨Nat.zero_le _,by simpa using h1,by simp⟩,qg ns st st (.refl _) hok,by rw[hlen];exact hle,by rw[hlen];exact hsub,?_⟩;rintro⟨k,s⟩ ⟨hk,hJ,hrun⟩;simp only at hk hJ hrun;rcases Nat.lt_or_ge k n with hlt|hge
 ·rw[show n - k=(n - k - 1)+1 by omega]at hrun hJ;obtain⟨L,Q,hl,hQ,hex⟩:=h hB k s hlt hJ.1;have hI:∀ s',step k s=.inr s'→okI step p (n - (k+1)) (k+1) s'∧aq step (n - (k+1)) (k+1) s'=aq step n 0 s0:=fun s' hs=>by
   have:=hJ.2 s' hs;rw[show n - k - 1=n - (k+1) by omega]at this hrun;simp only[aq,hs]at hrun;exact⟨this,hrun⟩
  have hx:∀ x,step k s=.inl x→aq step n 0 s0=.inl x:=fun x hs=>by
   simp only[aq,hs]at hrun;exact hrun.symm
  exact⟨L,Q,hl,fun e st' q=>JK hlen hlt (fun s' hs=>⟨⟨hlt,hI s' hs⟩,by simp only;omega⟩) hx e st' (hQ e st' q),hex⟩
 ·have hkn:k=n:=by omega
  subst hkn;obtain⟨Q,hQ,hex⟩:=h2 hB s;refine⟨L0,Q,ai c,fun e st' q=>?_,hex⟩;have hq:=hQ e st' q;simp only[Nat.sub_self,aq]at hrun;cases e with
  |exit j=>
   change bif Nat.beq j id then gh (D k s) m st' else False at hq;show bif Nat.beq j id then _ else _;cases hb:Nat.beq j id with
   |true=>
    rw[hb]at hq;obtain⟨js,q3,q4⟩:=hq;exact⟨.inr s,js,hrun,rfl,by rw[hlen];exact q3,by rw[hlen];exact q4⟩
   |false=>rw[hb]at hq;exact hq.elim
  |_=>exact hq.elim
theorem dg {B:Prop}(hm:P.follows .mixedOrders=true)(hts:ts.ok P)(hG:ConsOk P G)(hc:b_ N c=true)(hC:∀ st,C st=some (LCR m ns js D step p n s0 B exE outE st))(M:Int)(hn:n=M.toNat)(hB:B→M<9223372036854775808)
  (h:B→∀ k s,k<n→p k s→i64.wrap ((k:Int)+1)=((k+1:Nat):Int)→decide ((k:Int) <M)=true→∃ L,am P ro N L c∧exec ts G L c (D k s) (cR step exE outE D m id k s))
  (h2:B→∀ s,decide ((n:Int) <M)=false→exec ts G L0 c (D n s) (cZ (D n s) m id)):gn P ro N id (.loop c) C:=by
 refine uE hm hts hG hc hC (fun b k s hlt hp=>?_) fun b s=>⟨_,fun _ _ q=>q,h2 b s ?_⟩
 ·obtain⟨L,h1,h3⟩:=h b k s hlt hp (Jf (hn▸hlt) (hB b)) (decide_eq_true (by omega));exact⟨L,_,h1,fun _ _ q=>q,h3⟩
 ·rw[decide_eq_false_iff_not];omega
theorem jP (E:Prop)(hm:P.follows .mixedOrders=true)(hts:ts.ok P)(hG:ConsOk P G)(hc:b_ N c=true)(hC:∀ st,C st=some (LCR m ns js D step p n s0 True exE outE st))(M:Int)(hn:n=M.toNat)(hE:E→M<9223372036854775808)
  (h:E→∀ k s,k<n→p k s→i64.wrap ((k:Int)+1)=((k+1:Nat):Int)→decide ((k:Int) <M)=true→∃ L,am P ro N L c∧exec ts G L c (D k s) (cR step exE outE D m id k s))
  (h2:E→∀ s,decide ((n:Int) <M)=false→exec ts G L0 c (D n s) (cZ (D n s) m id)) (h3:¬E→∀ k s,exec ts G L0 c (D k s) fun _ _=>False):gn P ro N id (.loop c) C:=by
 by_cases hb:E
 ·refine uE hm hts hG hc hC (fun b k s hlt hp=>?_) fun b s=>⟨_,fun _ _ q=>q,h2 hb s ?_⟩
  ·obtain⟨L,h1,h4⟩:=h hb k s hlt hp (Jf (hn▸hlt) (hE hb)) (decide_eq_true (by omega));exact⟨L,_,h1,fun _ _ q=>q,h4⟩
  ·rw[decide_eq_false_iff_not];omega
 ·exact uE hm hts hG hc hC (fun _ k s _ _=>⟨L0,_,ai c,fun _ _ q=>q.elim,h3 hb k s⟩) fun _ s=>⟨_,fun _ _ q=>q.elim,h3 hb n s⟩
theorem fu (hm:P.follows .mixedOrders=true)(hts:ts.ok P)(hG:ConsOk P G)(hc:b_ N c=true)(hC:∀ st,C st=some (LCV m ns js D step p n s0 exE outE st))
  (h:∀ k s,p k s→∃ L,am P ro N L c∧exec ts G L c (D k s) (cR step exE outE D m id k s)):gn P ro N id (.loop c) C:=by
 refine qe hm hts hG hc fun st lc hC' hp=>?_;rw[hC st]at hC';cases hC';obtain⟨⟨hlen,hok,hle,hsub⟩,h1,hno⟩:=hp;refine⟨Nat×σ,fun x=>D x.1 x.2,fun x=>x.1≤n∧okI step p (n - x.1) x.1 x.2∧aq step (n - x.1) x.1 x.2=aq step n 0 s0,fun x=>n - x.1,(0,s0),mkN ns st,js,⟨Nat.zero_le _,by simpa using h1,by simp⟩,qg ns st st (.refl _) hok,by rw[hlen];exact hle,by rw[hlen];exact hsub,?_⟩;rintro⟨k,s⟩ ⟨hk,hJ,hrun⟩;simp only at hk hJ hrun;have hlt:k<n:=by
  rcases Nat.lt_or_ge k n with h|h
  ·exact h
  ·have hkn:k=n:=by omega
   subst hkn;simp only[Nat.sub_self,aq]at hrun;exact absurd hrun.symm (hno s)
 rw[show n - k=(n - k - 1)+1 by omega]at hrun hJ;obtain⟨L,hl,hex⟩:=h k s hJ.1;have hI:∀ s',step k s=.inr s'→okI step p (n - (k+1)) (k+1) s'∧aq step (n - (k+1)) (k+1) s'=aq step n 0 s0:=fun s' hs=>by
  have:=hJ.2 s' hs;rw[show n - k - 1=n - (k+1) by omega]at this hrun;simp only[aq,hs]at hrun;exact⟨this,hrun⟩
 have hx:∀ x,step k s=.inl x→aq step n 0 s0=.inl x:=fun x hs=>by
  simp only[aq,hs]at hrun;exact hrun.symm
 exact⟨L,_,hl,fun e st' q=>JK hlen hlt (fun s' hs=>⟨⟨hlt,hI s' hs⟩,by simp only;omega⟩) hx e st' q,hex⟩
theorem tE {l:List τ}{step:τ→σ→ρ⊕σ}{p:τ→σ→Prop}{D:List Nat→Option Nat→σ→St}{outN:σ→St}(d:τ)(it:Nat)(hm:P.follows .mixedOrders=true)(hts:ts.ok P)(hG:ConsOk P G)(hc:b_ N c=true)(hC:∀ st,C st=some (LCM m ns js D step p l s0 exE outE outN st))
  (h:∀ left cur s,(∀ j,j∈left→j<l.length∧p (l.getD j d) s)→∃ L,am P ro N L c∧exec ts G L c (D left cur s) (cM step l d exE outE outN D m id it left s)):gn P ro N id (.loop c) C:=by
 refine Hs hm hts hG hc fun st lc hC' hp=>?_;rw[hC st]at hC';cases hC';obtain⟨⟨hlen,hok,hle,hsub⟩,hM⟩:=hp;refine⟨τ,ρ,σ,_,step,p,l,d,s0,exE,outE,outN,D,it,mkN ns st,js,rfl,hM,qg ns st st (.refl _) hok,by rw[hlen];exact hle,by rw[hlen];exact hsub,?_⟩;rw[hlen];exact h
theorem iO {α:Type}{l:List α}(h:l.length≤a7):(l.length:Int) <9223372036854775808:=by unfold a7 at h;omega
end
section
universe u
variable {α:Type u}{G:List SV→α→Prop}{r:List SV}
theorem bY {k:Int→List SV→Option α}(h:∀ n l c,k n l=some c→G (.v (.int .i64 n)::l) c):∀ l c,pI k l=some c→G l c:=fun l c hc=>by
 obtain⟨n,r,rfl,h1⟩:=I_ hc;exact h n r c h1
theorem PB {k:Bool→List SV→Option α}(h:∀ n l c,k n l=some c→G (.v (.bool n)::l) c):∀ l c,pB k l=some c→G l c:=fun l c hc=>by
 obtain⟨n,r,rfl,h1⟩:=Pi hc;exact h n r c h1
theorem ef {t:Tag}{k:List t.T→List SV→Option α}(h:∀ n l c,k n l=some c→G (.rs t n::l) c):∀ l c,pR t k l=some c→G l c:=fun l c hc=>by
 obtain⟨n,r,rfl,h1⟩:=Pj hc;exact h n r c h1
theorem aW {t:Tag}{k:t.T→List SV→Option α}(h:∀ n l c,k n l=some c→G (.agg (cellsOf t n)::l) c):∀ l c,pD t k l=some c→G l c:=fun l c hc=>by
 obtain⟨n,r,rfl,h1⟩:=Jc hc;exact h n r c h1
theorem qh {t:Tag}{k:t.T→List SV→Option α}(h:∀ n l c,k n l=some c→G (.ep (cellsOf t n) 0::l) c):∀ l c,pX t k l=some c→G l c:=fun l c hc=>by
 obtain⟨n,r,rfl,h1⟩:=Ja hc;exact h n r c h1
theorem PC {t t2:Tag}{k:List (t.T×t2.T)→List SV→Option α}(h:∀ n l c,k n l=some c→G (.rm t t2 n::l) c):∀ l c,pM t t2 k l=some c→G l c:=fun l c hc=>by
 obtain⟨n,r,rfl,h1⟩:=Jb hc;exact h n r c h1
theorem aG {c0:α}(h:G [] c0):∀ l c,pE c0 l=some c→G l c:=fun l c hc=>by
 obtain⟨rfl,rfl⟩:=sF hc;exact h
end
section
universe u
variable {α:Type u}{G:List SV→α→Prop}
def apO:Option (List SV→Option α)→List SV→Option α
 |some q,r=>q r
 |none,_=>none
@[go_sem] theorem T2 {q:List SV→Option α}{r:List SV}:apO (some q) r=q r:=(rfl)
@[go_sem] theorem T3 {r:List SV}:apO (α:=α) none r=none:=(rfl)
def pFn (f:Nat)(k:List SV→Option (List SV→Option α)):List SV→Option α
 | .fn g [] caps::r=>bif Nat.beq g f then apO (k caps) r else none
 |_=>none
def pXF (f:Nat)(k:List SV→Option (List SV→Option α)):List SV→Option α
 | .ep [.fn g [] caps] 0::r=>bif Nat.beq g f then apO (k caps) r else none
 |_=>none
@[go_sem] theorem WH {f g:Nat}{k:List SV→Option (List SV→Option α)}{caps r:List SV}:pFn f k (.fn g [] caps::r)=bif Nat.beq g f then apO (k caps) r else none:=(rfl)
@[go_sem] theorem WI {f g:Nat}{k:List SV→Option (List SV→Option α)}{caps r:List SV}:pXF f k (.ep [.fn g [] caps] 0::r)=bif Nat.beq g f then apO (k caps) r else none:=(rfl)
theorem Mz {o:Option (List SV→Option α)}{r:List SV}{c:α}(h:apO o r=some c):∃ q,o=some q∧q r=some c:=by
 cases o with
 |none=>cases h
 |some q=>exact⟨q,rfl,h⟩
theorem tF {f:Nat}{k:List SV→Option (List SV→Option α)}(h:∀ caps q,k caps=some q→∀ l c,q l=some c→G (.fn f [] caps::l) c):∀ l c,pFn f k l=some c→G l c:=fun l c hc=>by
 unfold pFn at hc;split at hc
 ·rename_i g caps r;cases hb:Nat.beq g f with
  |false=>rw[hb]at hc;cases hc
  |true=>
   rw[hb]at hc;obtain⟨q,h1,h2⟩:=Mz hc;have:=Nat.eq_of_beq_eq_true hb;subst this;exact h caps q h1 r c h2
 ·cases hc
def pFB (f:Nat)(k:List SV→Option (List SV→Option α)):List SV→Option α
 | .fn g caps []::r=>bif Nat.beq g f then apO (k caps) r else none
 |_=>none
def T4 (f:Nat)(k:List SV→Option (List SV→Option α)):List SV→Option α
 | .ep [.fn g caps []] 0::r=>bif Nat.beq g f then apO (k caps) r else none
 |_=>none
@[go_sem] theorem WJ {f g:Nat}{k:List SV→Option (List SV→Option α)}{caps r:List SV}:pFB f k (.fn g caps []::r)=bif Nat.beq g f then apO (k caps) r else none:=(rfl)
@[go_sem] theorem VN {f g:Nat}{k:List SV→Option (List SV→Option α)}{caps r:List SV}:T4 f k (.ep [.fn g caps []] 0::r)=bif Nat.beq g f then apO (k caps) r else none:=(rfl)
@[go_sem] theorem WK {f g:Nat}{k:List SV→Option (List SV→Option α)}{b c r:List SV}{x:SV}:pFB f k (.fn g b (x::c)::r)=none:=(rfl)
@[go_sem] theorem VO {f g:Nat}{k:List SV→Option (List SV→Option α)}{b c r:List SV}{x:SV}:T4 f k (.ep [.fn g b (x::c)] 0::r)=none:=(rfl)
@[go_sem] theorem WL {f g:Nat}{k:List SV→Option (List SV→Option α)}{b c r:List SV}{x:SV}:pFn f k (.fn g (x::b) c::r)=none:=(rfl)
@[go_sem] theorem WN {f g:Nat}{k:List SV→Option (List SV→Option α)}{b c r:List SV}{x:SV}:pXF f k (.ep [.fn g (x::b) c] 0::r)=none:=(rfl)
end
def pXX {α:Type 1}(t:Tag)(k:t.T→List SV→Option α):List SV→Option α
 | .ep [s] 0::r=>pX t k (s::r)
 |_=>none
@[go_sem] theorem T5 {α:Type 1}{t:Tag}{k:t.T→List SV→Option α}{s:SV}{r:List SV}:pXX t k (.ep [s] 0::r)=pX t k (s::r):=(rfl)
theorem MA {α:Type 1}{G:List SV→α→Prop}{t:Tag}{k:List t.T→List SV→Option α}(h:∀ n l c,k n l=some c→G (.ep [.rs t n] 0::l) c):∀ l c,pXR t k l=some c→G l c:=fun l c hc=>by
 obtain⟨n,r,rfl,h1⟩:=Mx hc;exact h n r c h1
def EE (k:Tag)(K:List k.T→Option HCon):List Ob→Option HCon
 | [.row k' l] =>if h:k'=k then K (h▸l)else none
 |_=>none
@[go_sem] theorem VP {k:Tag}{K:List k.T→Option HCon}{l:List k.T}:EE k K [.row k l]=K l:=by simp[EE]
theorem CD {k:Tag}{K:List k.T→Option HCon}{h:List Ob}{c:HCon}(hh:EE k K h=some c):∃ l,h=[.row k l]∧K l=some c:=by
 unfold EE at hh;split at hh
 ·split at hh
  ·rename_i e;subst e;exact⟨_,rfl,hh⟩
  ·cases hh
 ·cases hh
end Go.Sx
end
section
namespace Go.Sx
open Go.Proofs
open IntKind (i64 u64)
theorem czl {p:Prop}(h:p:=by first|(simp only[*,cond_true,cond_false,Bool.not_true,Bool.not_false,go_sem,Nat.reduceBEq,Nat.reduceLeDiff,Nat.reduceLT,decide_true,Nat.reduceAdd,Nat.reduceSub,Nat.reduceMul,Int.reduceLE,Int.reduceLT,Int.reduceToNat,Int.reduceNeg,reduceCtorEq];done) |fail):p:=h
theorem lj {l0:List Nat}(a0:JL l0){p:Prop}(h:JL l0→p:=by intro ja;(first|done|(repeat' (first|with_reducible refine And.intro ?_ ?_|((with_reducible show _≠_);first|assumption|omega|(simp_all [eW,fA];done) |grind) |with_reducible intro _)) <;>(first|done|with_reducible exact Empty.elim ‹Empty› |with_reducible assumption|rfl|omega|assumption|decide|exact fk ja|exact czl|(simp only[*,cond_true,cond_false,Bool.not_true,Bool.not_false,go_sem,Nat.reduceBEq,Nat.reduceLeDiff,Nat.reduceLT,decide_true,Nat.reduceAdd,Nat.reduceSub,Nat.reduceMul,Int.reduceLE,Int.reduceLT,Int.reduceToNat,Int.reduceNeg,reduceCtorEq];(repeat' (first|with_reducible refine And.intro ?_ ?_|((with_reducible show _≠_);first|assumption|omega|(simp_all [eW,fA];done) |grind) |with_reducible intro _)) <;>(first|done|assumption|rfl|omega|decide|exact fk ja|(simp_all [eW,fA];done))) |(simp_all [okI,eW,fA];done) |(simp_all [eW,fA];(first|done|exact fk2 ja)) |exact fk2 ja))):p:=h a0
theorem cm {l0:List Nat}(a0:JL l0){p:Prop}(h:JL l0→p:=by intro ja;simp only[go_sem,Nat.reduceBEq,Nat.reduceLeDiff,Nat.reduceLT,decide_true,Nat.reduceAdd,Nat.reduceSub,Nat.reduceMul,Int.reduceLE,Int.reduceLT,Int.reduceToNat,Int.reduceNeg,reduceCtorEq,hc,hw];all_goals exact lj ja):p:=h a0
theorem cn {l0:List Nat}(a0:JL l0){p:Prop}(h:JL l0→p:=by intro ja;simp only[go_sem,Nat.reduceBEq,Nat.reduceLeDiff,Nat.reduceLT,decide_true,Nat.reduceAdd,Nat.reduceSub,Nat.reduceMul,Int.reduceLE,Int.reduceLT,Int.reduceToNat,Int.reduceNeg,reduceCtorEq,hc];all_goals exact lj ja):p:=h a0
def gM (x:Int):Bool:=false
@[go_sem] def pb:List SV→Option Con:=(pI fun x=>(pE (.det True (.v (.bool (gM x))))))
theorem zq1 {p:Prop}(h:p:=by simp only[go_sem,Nat.reduceBEq,Nat.reduceLeDiff,Nat.reduceLT,decide_true,Nat.reduceAdd,Nat.reduceSub,Nat.reduceMul,Int.reduceLE,Int.reduceLT,Int.reduceToNat,Int.reduceNeg,reduceCtorEq];all_goals exact cl):p:=h
theorem uF:FnOk Tryz.prog 79 pb:=by
 have hG:ConsOk Tryz.prog (mkG [] []):=ay cg0 cg0;refine ba [.o] mixed an hG (fn:=Tryz.f79) (c:=ae Tryz.f79) kr kr kr kr (bY fun x=>(aG (fun hp=>?_)));dsimp only[aF]at hp;refine⟨nbl rfl,L0,ai _,?_⟩
 ·unfold ae Tryz.f79;try unfold gM
  exact zq1
def b8 (x:Int)(y:Int):Int:=(bif(gM x)then(bif(gM y)then 0 else(-1))else(bif(gM y)then 1 else(bif(decide (x<y))then(-1)else(bif(decide (x > y))then 1 else 0))))
@[go_sem] def fH:List SV→Option Con:=(pI fun x=>(pI fun y=>(pE (.det True (.v (.int .i64 (b8 x y)))))))
theorem gq:FnOk Tryz.prog 45 fH:=by
 have hG:ConsOk Tryz.prog (mkG [(79,pb)] []):=ay (cgc uF cg0) cg0;refine ba [.o] mixed an hG (fn:=Tryz.f45) (c:=ae Tryz.f45) kr kr kr kr (bY fun x=>(bY fun y=>(aG (fun hp=>?_))));dsimp only[aF]at hp;refine⟨nbl rfl,L0,ai _,?_⟩
 ·unfold ae Tryz.f45;try unfold b8
  exact zq1
def al (n:Int):Int:=(bif(decide (n<0))then(u64.wrap (0 - (u64.wrap n)))else(u64.wrap n))
@[go_sem] def jQ:List SV→Option Con:=(pI fun n=>(pE (.det True (.v (.int .u64 (al n))))))
theorem mD:FnOk Tryz.prog 181 jQ:=by
 have hG:ConsOk Tryz.prog (mkG [] []):=ay cg0 cg0;refine ba [.o] mixed an hG (fn:=Tryz.f181) (c:=ae Tryz.f181) kr kr kr kr (bY fun n=>(aG (fun hp=>?_)));dsimp only[aF]at hp;refine⟨nbl rfl,L0,ai _,?_⟩
 ·unfold ae Tryz.f181;try unfold al
  exact zq1
def aT (a:Ratio):Int:=(bif(((((decide (a.d<1)) ||(decide (a.d > 1073741824))) ||(decide (a.n< (-1073741824)))) ||(decide (a.n > 1073741824))) ||(((rq (Int.toNat (al a.n)) (Int.toNat (u64.wrap a.d)):Nat):Int) !=1))then 120 else 0)
def rO (a:Ratio):Prop:=(((((decide (a.d<1)) ||(decide (a.d > 1073741824))) ||(decide (a.n< (-1073741824)))) ||(decide (a.n > 1073741824)))=false→(0≤(al a.n)∧0≤(u64.wrap a.d)))
theorem xJ (n:Int):0≤u64.wrap n:=by
 simp[IntKind.wrap,IntKind.bits,IntKind.signed];omega
theorem uG (n:Int):0≤al n:=by
 unfold al;cases decide (n<0) <;>exact xJ _
theorem xK (a:Ratio):rO a:=fun _=>⟨uG _,xJ _⟩
@[go_sem] def kL:List SV→Option Con:=(pD .ratio fun a=>(pE (.det True (.v (.int .i64 (aT a))))))
theorem zq4 {p:Prop}(h:p:=by simp only[go_sem,Nat.reduceBEq,Nat.reduceLeDiff,Nat.reduceLT,decide_true,Nat.reduceAdd,Nat.reduceSub,Nat.reduceMul,Int.reduceLE,Int.reduceLT,Int.reduceToNat,Int.reduceNeg,reduceCtorEq,C83];all_goals exact cl):p:=h
theorem mE:FnOk Tryz.prog 165 kL:=by
 have hG:ConsOk Tryz.prog (mkG [(180,C83),(181,jQ)] []):=ay (cgc JF (cgc mD cg0)) cg0;refine ba [.o] mixed an hG (fn:=Tryz.f165) (c:=ae Tryz.f165) kr kr kr kr (aW fun a=>(aG (fun hp=>?_)));dsimp only[aF]at hp;have hp:=xK a;unfold rO at hp;refine⟨nbl rfl,L0,ai _,?_⟩
 ·unfold ae Tryz.f165;try unfold aT
  exact zq4
def ku (a:Ratio)(b:Ratio):Int×Int:=(bif(((aT a) !=0) ||((aT b) !=0))then(0,120)else((b8 (i64.wrap (a.n*b.d)) (i64.wrap (b.n*a.d))),0))
@[go_sem] def vm:List SV→Option Con:=(pD .ratio fun a=>(pD .ratio fun b=>(pE (.det True (.tup [.v (.int .i64 ((ku a b).1)),.v (.int .i64 ((ku a b).2))])))))
theorem A3:FnOk Tryz.prog 163 vm:=by
 have hG:ConsOk Tryz.prog (mkG [(45,fH),(165,kL)] []):=ay (cgc gq (cgc mE cg0)) cg0;refine ba [.o,.o] mixed an hG (fn:=Tryz.f163) (c:=ae Tryz.f163) kr kr kr kr (aW fun a=>(aW fun b=>(aG (fun hp=>?_))));dsimp only[aF]at hp;refine⟨nbl rfl,L0,ai _,?_⟩
 ·unfold ae Tryz.f163;try unfold ku
  exact zq1
def yV (ok:Bool)(e:Int):Unit:=(bif(!ok)then default else())
def cr (ok:Bool)(e:Int):Bool:=(bif(!ok)then false else true)
@[go_sem] def lD:List SV→Option Con:=(pB fun ok=>(pI fun e=>(pE (.may (cr ok e) (.tup []) (.iface 170 (.int .i64 e))))))
theorem og:FnOk Tryz.prog 65 lD:=by
 have hG:ConsOk Tryz.prog (mkG [] []):=ay cg0 cg0;refine ba [] mixed an hG (fn:=Tryz.f65) (c:=ae Tryz.f65) kr kr kr kr (PB fun ok=>(bY fun e=>(aG (fun hp=>?_))));dsimp only[aF]at hp;refine⟨nbl rfl,L0,ai _,?_⟩
 ·unfold ae Tryz.f65;try unfold yV
  try unfold cr
  exact zq1
@[go_sem] def bI (l_:List Int)(k_0:Nat)(s_0:Unit):Unit⊕Unit:=(bif(decide ((l_.getD (Int.toNat ((k_0:Int)+1)) (0:Int)) < (l_.getD (Int.toNat (i64.wrap (((k_0:Int)+1) - 1))) (0:Int))))then .inl ()else .inr ())
def gu (l_:List Int)(k_0:Nat)(s_0:Unit):Prop:=(l_.length≤a7→((0≤((k_0:Int)+1)∧((k_0:Int)+1) < (l_.length:Int))∧(0≤(i64.wrap (((k_0:Int)+1) - 1))∧(i64.wrap (((k_0:Int)+1) - 1)) < (l_.length:Int))))
def ap (l_:List Int):Bool:=(match aq (bI l_) (l_.length - 1) 0 ()with| .inl x_0_0=>false| .inr s_0=>true)
def pc (l_:List Int):Prop:=okI (bI l_) (gu l_) (l_.length - 1) 0 ()
theorem uH (l_:List Int):pc l_:=nj _ _ _ fun j s h1 h2 hm=>by
 unfold a7 at hm;rw[bt (by omega) (by omega)];omega
@[go_sem] def ji:List SV→Option Con:=(pR .int fun l_=>(pE (.det True (.v (.bool (ap l_))))))
theorem zq7 {p:Prop}(h:p:=by simp only[go_sem,Nat.reduceBEq,Nat.reduceLeDiff,Nat.reduceLT,decide_true,Nat.reduceAdd,Nat.reduceSub,Nat.reduceMul,Int.reduceLE,Int.reduceLT,Int.reduceToNat,Int.reduceNeg,reduceCtorEq,hb0]):p:=h
theorem zq8 {p:Prop}(h:p:=by simp only[go_sem,Nat.reduceBEq,Nat.reduceLeDiff,Nat.reduceLT,decide_true,Nat.reduceAdd,Nat.reduceSub,Nat.reduceMul,Int.reduceLE,Int.reduceLT,Int.reduceToNat,Int.reduceNeg,reduceCtorEq,bI,hc0,hw0];all_goals exact cl):p:=h
theorem zq9 {p:Prop}(h:p:=by simp only[go_sem,Nat.reduceBEq,Nat.reduceLeDiff,Nat.reduceLT,decide_true,Nat.reduceAdd,Nat.reduceSub,Nat.reduceMul,Int.reduceLE,Int.reduceLT,Int.reduceToNat,Int.reduceNeg,reduceCtorEq,hc0];all_goals exact cl2):p:=h
theorem kv:FnOk Tryz.prog 95 ji:=by
 have hG:ConsOk Tryz.prog (mkG [] []):=ay cg0 cg0;refine ba [.o] mixed an hG (fn:=Tryz.f95) (c:=ae Tryz.f95) kr kr kr kr (ef fun l_=>(aG (fun hp=>?_)));dsimp only[aF]at hp;have hp:=uH l_;unfold pc at hp;refine⟨nbl rfl,(fun id st=>bif Nat.beq id 0 then some (LC (ρ:=Unit) (σ:=Unit) (lk 0 st.t=.rs .int l_∧lk 3 st.t=.v (.int .i64 1)∧st.h=[]∧okI (bI l_) (gu l_) (l_.length - 1) 0 ()) (aq (bI l_) (l_.length - 1) 0 ()) (fun _=>.ret) (fun x_0_0=>⟨[(2,.v (.bool false))],[]⟩) (fun s_0=>⟨[],[]⟩))else none),?_,?_⟩
 ·unfold ae Tryz.f95;simp only[am,true_and,and_true]
  ·refine Ho mixed an hG kr fun st lc hC hp=>?_;simp only[go_sem,Nat.reduceBEq,Option.some.injEq]at hC;subst hC;obtain⟨t,h⟩:=st;dsimp only[LC]at hp;obtain⟨e0_0,e0_1,rfl,hok0⟩:=hp;refine⟨_,_,_,(bI l_),(gu l_),(l_.length - 1),(),_,_,_,(fun k_0 s_0=>⟨[(0,.rs .int l_),(3,.v (.int .i64 ((k_0:Int)+1)))],[]⟩),[],rfl,hok0,Nat.le_refl _,?_,fun k_0 s_0 hk0 hp0=>?_⟩
   ·simp only[go_sem,Nat.reduceBEq,Nat.reduceLeDiff,Nat.reduceLT,decide_true,Nat.reduceAdd,Nat.reduceSub,Nat.reduceMul,Int.reduceLE,Int.reduceLT,Int.reduceToNat,Int.reduceNeg,reduceCtorEq,e0_0,e0_1];all_goals (first|done|decide|(repeat' (first|refine And.intro ?_ ?_|rfl|decide)))
   refine⟨L0,?_,?_⟩
   ·simp only[am,and_self,true_and,and_true]
   ·by_cases hb0:l_.length≤a7
    rotate_left
    ·exact zq7
    ·by_cases hlt0:k_0< (l_.length - 1)
     ·have hw0:i64.wrap (((k_0:Nat):Int)+1+1)=((k_0+1:Nat):Int)+1:=by(have hbb:=hb0;have hll:=hlt0;try unfold a7 at hbb);rw[bt (by omega) (by omega)];omega
      have hq0:=hp0 hlt0;unfold gu at hq0
      replace hq0:=hq0 hb0
      try simp only[hw0,Int.toNat_natCast]at hq0
      have hc0:decide (((k_0:Int)+1) < (l_.length:Int))=true:=by simp only[decide_eq_true_eq];omega
      exact zq8
     ·have hc0:decide (((k_0:Int)+1) < (l_.length:Int))=false:=by simp only[decide_eq_false_iff_not];omega
      exact zq9
 ·unfold ae Tryz.f95;try unfold ap
  exact zq1
def bE (i:Int)(n:Int):Bool:=((decide (i≥0))&&(decide (i<n)))
@[go_sem] def jR:List SV→Option Con:=(pI fun i=>(pI fun n=>(pE (.det True (.v (.bool (bE i n)))))))
theorem lE:FnOk Tryz.prog 97 jR:=by
 have hG:ConsOk Tryz.prog (mkG [] []):=ay cg0 cg0;refine ba [.o] mixed an hG (fn:=Tryz.f97) (c:=ae Tryz.f97) kr kr kr kr (bY fun i=>(bY fun n=>(aG (fun hp=>?_))));dsimp only[aF]at hp;refine⟨nbl rfl,L0,ai _,?_⟩
 ·unfold ae Tryz.f97;try unfold bE
  exact zq1
def iC (x:Ratio×Ratio):Bool:=(((((ku x.1 x.2).2==0)&&(decide (x.1.n≥0)))&&(decide ((ku x.1 x.2).1≤0)))&&(decide (x.2.n≤x.2.d)))
@[go_sem] def qi:List SV→Option Con:=(pD .ratio2 fun x=>(pE (.det True (.v (.bool (iC x))))))
theorem vR:FnOk Tryz.prog 136 qi:=by
 have hG:ConsOk Tryz.prog (mkG [(163,vm)] []):=ay (cgc A3 cg0) cg0;refine ba [.o] mixed an hG (fn:=Tryz.f136) (c:=ae Tryz.f136) kr kr kr kr (aW fun x=>(aG (fun hp=>?_)));dsimp only[aF]at hp;refine⟨nbl rfl,L0,ai _,?_⟩
 ·unfold ae Tryz.f136;try unfold iC
  exact zq1
def gw (i:Int)(x:Reach):Bool:=(bif(decide (i > 0))then((((((bE x.up i)&&(ap ([1,x.delay,16])))&&(ap ([0,x.siphon,x.cap,1073741824])))&&(ap ([0,x.siphon,x.bank,1099511627776])))&&(ap ([0,x.evap.lo,x.evap.hi,1073741824])))&&(iC x.seep))else((((((x.up==(-1))&&(ap ([1,x.delay,16])))&&(ap ([0,x.siphon,x.cap,1073741824])))&&(ap ([0,x.siphon,x.bank,1099511627776])))&&(ap ([0,x.evap.lo,x.evap.hi,1073741824])))&&(iC x.seep)))
@[go_sem] def qj:List SV→Option Con:=(pI fun i=>(pD .reach fun x=>(pE (.det True (.v (.bool (gw i x)))))))
theorem vS:FnOk Tryz.prog 96 qj:=by
 have hG:ConsOk Tryz.prog (mkG [(95,fun l=>ji (dH [.sl .int] l)),(97,jR),(136,qi)] []):=ay (cgc (kv.norm [.sl .int]) (cgc lE (cgc vR cg0))) cg0;refine ba [.o] mixed an hG (fn:=Tryz.f96) (c:=ae Tryz.f96) kr kr kr kr (bY fun i=>(aW fun x=>(aG (fun hp=>?_))));dsimp only[aF]at hp;refine⟨nbl rfl,L0,ai _,?_⟩
 ·unfold ae Tryz.f96;try unfold gw
  exact zq1
def cS (a0:District)(a1:Right):Bool:=(bif(((!(bE a1.farm (a0.farms.length:Int))) ||(!(bE a1.reach (a0.reaches.length:Int)))) ||(!(ap ([0,a1.since,a1.to,(i64.wrap (a0.hours - 1))]))))then false else(bif(a1.kind==1)then((((a1.reach==0)&&(ap ([0,a1.rank,1048576])))&&(ap ([1,a1.litres,1073741824])))&&(ap ([1,a1.length,a1.every,a0.hours])))else(bif(a1.kind==2)then((a1.name==a1.name)&&((a1.kind==a1.kind)&&((a1.farm==a1.farm)&&((a1.reach==a1.reach)&&((a1.rank==0)&&((a1.litres==0)&&((a1.since==0)&&((a1.to==(i64.wrap (a0.hours - 1)))&&((a1.every==0)&&(a1.length==0))))))))))else(bif(a1.kind==3)then((a1.name==a1.name)&&((a1.kind==a1.kind)&&((a1.farm==a1.farm)&&((a1.reach==a1.reach)&&((a1.rank==0)&&((a1.litres==0)&&((a1.since==a1.since)&&((a1.to==a1.to)&&((a1.every==0)&&(a1.length==0))))))))))else false))))
@[go_sem] def qk:List SV→Option Con:=(pD .district fun a0=>(pD .right fun a1=>(pE (.det True (.v (.bool (cS a0 a1)))))))
theorem vT:FnOk Tryz.prog 98 qk:=by
 have hG:ConsOk Tryz.prog (mkG [(95,fun l=>ji (dH [.sl .int] l)),(97,jR)] []):=ay (cgc (kv.norm [.sl .int]) (cgc lE cg0)) cg0;refine ba [.o] mixed an hG (fn:=Tryz.f98) (c:=ae Tryz.f98) kr kr kr kr (aW fun a0=>(aW fun a1=>(aG (fun hp=>?_))));dsimp only[aF]at hp;refine⟨nbl rfl,L0,ai _,?_⟩
 ·unfold ae Tryz.f98;try unfold cS
  exact zq1
@[go_sem] def eO (a0:District)(a1:Int)(k_0:Nat)(s_0:Unit):Unit⊕Unit:=(bif(cr (gw (k_0:Int) (a0.reaches.getD k_0 (default:Reach))) a1)then .inr ()else .inl ())
@[go_sem] def fI (a0:District)(a1:Int)(k_1:Nat)(s_1:Unit):Unit⊕Unit:=(bif(cr (ap ([0,(a0.crops.getD k_1 (default:Crop)).need,1048576])) a1)then .inr ()else .inl ())
@[go_sem] def eP (a0:District)(a1:Int)(k_2:Nat)(s_2:Unit):Unit⊕Unit:=(bif(decide ((a0.farms.getD k_2 (default:Farm)).area > 0))then(bif(cr (((bE ((a0.farms.getD k_2 (default:Farm)).crop) (a0.crops.length:Int))&&(bE ((a0.farms.getD k_2 (default:Farm)).reach) (a0.reaches.length:Int)))&&(ap ([0,(a0.farms.getD k_2 (default:Farm)).area,1048576]))) a1)then .inr ()else .inl ())else(bif(cr ((((a0.farms.getD k_2 (default:Farm)).crop==(-1))&&(bE ((a0.farms.getD k_2 (default:Farm)).reach) (a0.reaches.length:Int)))&&(ap ([0,(a0.farms.getD k_2 (default:Farm)).area,1048576]))) a1)then .inr ()else .inl ()))
@[go_sem] def dF (a0:District)(a1:Int)(k_3:Nat)(s_3:Unit):Unit⊕Unit:=(bif(cr (cS a0 (a0.rights.getD k_3 (default:Right))) a1)then .inr ()else .inl ())
@[go_sem] def fJ (a0:District)(a1:Int)(k_4:Nat)(s_4:Unit):Unit⊕Unit:=(bif(cr (((bE ((a0.duties.getD k_4 (default:Duty)).farm) (a0.farms.length:Int))&&(bE ((a0.duties.getD k_4 (default:Duty)).reach) (a0.reaches.length:Int)))&&(ap ([0,(a0.duties.getD k_4 (default:Duty)).due,a0.hours]))) a1)then .inr ()else .inl ())
def xL (a0:District)(a1:Int):Unit:=(bif(cr (((ap ([1,a0.hours,4096]))&&(ap ([0,a0.tank.start,a0.tank.cap,1099511627776])))&&(decide ((a0.reaches.length:Int) > 0))) a1)then(match aq (eO a0 a1) a0.reaches.length 0 ()with| .inl x_0_0=>default| .inr s_0=>(match aq (fI a0 a1) a0.crops.length 0 ()with| .inl x_1_0=>default| .inr s_1=>(match aq (eP a0 a1) a0.farms.length 0 ()with| .inl x_2_0=>default| .inr s_2=>(match aq (dF a0 a1) a0.rights.length 0 ()with| .inl x_3_0=>default| .inr s_3=>(match aq (fJ a0 a1) a0.duties.length 0 ()with| .inl x_4_0=>default| .inr s_4=>())))))else default)
def dG (a0:District)(a1:Int):Bool:=(bif(cr (((ap ([1,a0.hours,4096]))&&(ap ([0,a0.tank.start,a0.tank.cap,1099511627776])))&&(decide ((a0.reaches.length:Int) > 0))) a1)then(match aq (eO a0 a1) a0.reaches.length 0 ()with| .inl x_0_0=>false| .inr s_0=>(match aq (fI a0 a1) a0.crops.length 0 ()with| .inl x_1_0=>false| .inr s_1=>(match aq (eP a0 a1) a0.farms.length 0 ()with| .inl x_2_0=>false| .inr s_2=>(match aq (dF a0 a1) a0.rights.length 0 ()with| .inl x_3_0=>false| .inr s_3=>(match aq (fJ a0 a1) a0.duties.length 0 ()with| .inl x_4_0=>false| .inr s_4=>true)))))else false)
@[go_sem] def oh:List SV→Option Con:=(pD .district fun a0=>(pI fun a1=>(pE (.may (dG a0 a1) (.tup []) (.iface 170 (.int .i64 a1))))))
theorem tG:FnOk Tryz.prog 66 oh:=by
 have hG:ConsOk Tryz.prog (mkG [(65,lD),(95,fun l=>ji (dH [.sl .int] l)),(96,qj),(97,jR),(98,fun l=>qk (dH [.st .district,.st .right] l))] []):=ay (cgc og (cgc (kv.norm [.sl .int]) (cgc vS (cgc lE (cgc (vT.norm [.st .district,.st .right]) cg0))))) cg0;refine ba [] mixed an hG (fn:=Tryz.f66) (c:=ae Tryz.f66) kr kr kr kr (aW fun a0=>(bY fun a1=>(aG (fun hp=>?_))));dsimp only[aF]at hp;refine⟨nbl rfl,(fun id st=>bif Nat.beq id 0 then some (LCR (ρ:=Unit) (σ:=Unit) 1 [] [0] (fun k_0 s_0=>⟨[(1,.v (.int .i64 a1)),(2,.ptr 0 0),(38,.rs .reach a0.reaches),(39,.v (.int .i64 (a0.reaches.length:Int))),(40,.v (.int .i64 (k_0:Int)))],[.cells (cellsOf .district a0)]⟩) (eO a0 a1) pT a0.reaches.length () (a0.reaches.length≤a7) (fun _=>.pan (.iface 170 (.int .i64 a1))) (fun x_0_0=>⟨[],[.dead]⟩) st)else bif Nat.beq id 2 then some (LCR (ρ:=Unit) (σ:=Unit) 1 [] [0] (fun k_1 s_1=>⟨[(1,.v (.int .i64 a1)),(2,.ptr 0 0),(52,.rs .crop a0.crops),(53,.v (.int .i64 (a0.crops.length:Int))),(54,.v (.int .i64 (k_1:Int)))],[.cells (cellsOf .district a0)]⟩) (fI a0 a1) pT a0.crops.length () (a0.crops.length≤a7) (fun _=>.pan (.iface 170 (.int .i64 a1))) (fun x_1_0=>⟨[],[.dead]⟩) st)else bif Nat.beq id 4 then some (LCR (ρ:=Unit) (σ:=Unit) 1 [] [0] (fun k_2 s_2=>⟨[(1,.v (.int .i64 a1)),(2,.ptr 0 0),(66,.rs .farm a0.farms),(67,.v (.int .i64 (a0.farms.length:Int))),(68,.v (.int .i64 (k_2:Int)))],[.cells (cellsOf .district a0)]⟩) (eP a0 a1) pT a0.farms.length () (a0.farms.length≤a7) (fun _=>.pan (.iface 170 (.int .i64 a1))) (fun x_2_0=>⟨[],[.dead]⟩) st)else bif Nat.beq id 6 then some (LCR (ρ:=Unit) (σ:=Unit) 1 [] [0] (fun k_3 s_3=>⟨[(1,.v (.int .i64 a1)),(2,.ptr 0 0),(103,.rs .right a0.rights),(104,.v (.int .i64 (a0.rights.length:Int))),(105,.v (.int .i64 (k_3:Int)))],[.cells (cellsOf .district a0)]⟩) (dF a0 a1) pT a0.rights.length () (a0.rights.length≤a7) (fun _=>.pan (.iface 170 (.int .i64 a1))) (fun x_3_0=>⟨[],[.dead]⟩) st)else bif Nat.beq id 8 then some (LCR (ρ:=Unit) (σ:=Unit) 1 [] [0] (fun k_4 s_4=>⟨[(1,.v (.int .i64 a1)),(2,.ptr 0 0),(116,.rs .duty a0.duties),(117,.v (.int .i64 (a0.duties.length:Int))),(118,.v (.int .i64 (k_4:Int)))],[.cells (cellsOf .district a0)]⟩) (fJ a0 a1) pT a0.duties.length () (a0.duties.length≤a7) (fun _=>.pan (.iface 170 (.int .i64 a1))) (fun x_4_0=>⟨[],[.dead]⟩) st)else none),?_,?_⟩
 ·unfold ae Tryz.f66;simp only[am,true_and,and_true];refine⟨?_,?_,?_,?_,?_⟩
  ·refine dg mixed an hG kr (fun _=>rfl) (a0.reaches.length:Int) rfl iO (fun hb0 k_0 s_0 hlt0 _ hw hc=>⟨L0,ai _,?_⟩) (fun hb0 s_0 hc=>?_)
   ·exact cm (jl [0])
   ·exact cn (jl [0])
  ·refine dg mixed an hG kr (fun _=>rfl) (a0.crops.length:Int) rfl iO (fun hb1 k_1 s_1 hlt1 _ hw hc=>⟨L0,ai _,?_⟩) (fun hb1 s_1 hc=>?_)
   ·exact cm (jl [0])
   ·exact cn (jl [0])
  ·refine dg mixed an hG kr (fun _=>rfl) (a0.farms.length:Int) rfl iO (fun hb2 k_2 s_2 hlt2 _ hw hc=>⟨L0,ai _,?_⟩) (fun hb2 s_2 hc=>?_)
   ·exact cm (jl [0])
   ·exact cn (jl [0])
  ·refine dg mixed an hG kr (fun _=>rfl) (a0.rights.length:Int) rfl iO (fun hb3 k_3 s_3 hlt3 _ hw hc=>⟨L0,ai _,?_⟩) (fun hb3 s_3 hc=>?_)
   ·exact cm (jl [0])
   ·exact cn (jl [0])
  ·refine dg mixed an hG kr (fun _=>rfl) (a0.duties.length:Int) rfl iO (fun hb4 k_4 s_4 hlt4 _ hw hc=>⟨L0,ai _,?_⟩) (fun hb4 s_4 hc=>?_)
   ·exact cm (jl [0])
   ·exact cn (jl [0])
 ·unfold ae Tryz.f66;try unfold xL
  try unfold dG
  exact zq1
def aw (d:District):Int:=(bif(cr (((((decide ((d.reaches.length:Int)≤64))&&(decide ((d.farms.length:Int)≤600)))&&(decide ((d.crops.length:Int)≤32)))&&(decide ((d.rights.length:Int)≤256)))&&(decide ((d.duties.length:Int)≤256))) 2)then(bif(dG d 191)then 0 else 191)else 2)
@[go_sem] def jS:List SV→Option Con:=(pD .district fun d=>(pE (.det True (.v (.int .i64 (aw d))))))
theorem zq16 {p:Prop}(h:p:=by simp only[go_sem,Nat.reduceBEq,Nat.reduceLeDiff,Nat.reduceLT,decide_true,Nat.reduceAdd,Nat.reduceSub,Nat.reduceMul,Int.reduceLE,Int.reduceLT,Int.reduceToNat,Int.reduceNeg,reduceCtorEq,Hr,EC,Pu];all_goals exact cl):p:=h
theorem lF:FnOk Tryz.prog 34 jS:=by
 have hG:ConsOk Tryz.prog (mkG [(65,lD),(66,fun l=>oh (dH [.st .district,.o] l))] []):=ay (cgc og (cgc (tG.norm [.st .district,.o]) cg0)) cg0;refine Pq JA [.o] mixed an hG (fn:=Tryz.f34) (c0:=Hr (ae Tryz.f34)) (c1:=EC (EC (ae Tryz.f34))) (i1:=regI (Hr (EC (ae Tryz.f34)))) (o1:=TN 0 (Hr (EC (ae Tryz.f34)))) (o2:=TN 1 (Hr (EC (ae Tryz.f34)))) (t3:=3) (q:=2) (tys:= #[]) kr kr kr (by refine⟨?_,?_,?_⟩ <;>kernel_rfl) (by refine⟨?_,?_,?_⟩ <;>kernel_rfl) (nbl rfl) kr kr (aW fun d=>(aG (fun hp=>?_)));dsimp only[aF]at hp;refine⟨nbl rfl,L0,L0,1,?_,?_,?_⟩
 ·unfold ae Tryz.f34;simp only[Hr,am,and_self,true_and,and_true]
 ·unfold ae Tryz.f34;simp only[EC];simp only[am,and_self,true_and,and_true]
 ·unfold ae Tryz.f34;try unfold aw
  exact zq16
end Go.Sx
end
section
namespace Go.Sx
open Go.RowKit
def orC {α:Type 1}:Option α→Option α→Option α
 |some x,_=>some x
 |none,y=>y
@[go_sem] theorem T6 {α:Type 1}{x:α}{y:Option α}:orC (some x) y=some x:=(rfl)
@[go_sem] theorem T7 {α:Type 1}{y:Option α}:orC none y=y:=(rfl)
theorem qX {α:Type 1}{a b:Option α}{c:α}(h:orC a b=some c):a=some c∨b=some c:=by
 cases a with
 |none=>exact .inr h
 |some x=>exact .inl h
theorem FnOkO.or {P:Program}{f:FuncId}{C D:List SV→List Ob→Option HCon}(h1:FnOkO P f C)(h2:FnOkO P f D):FnOkO P f (fun l h=>orC (C l h) (D l h)):=
 ⟨fun l h c hc=>by rcases qX hc with e|e;exact h1.enter l h c e;exact h2.enter l h c e,
  fun l h c hc=>by rcases qX hc with e|e;exact h1.calls l h c e;exact h2.calls l h c e⟩
theorem FnOk.or {P:Program}{f:FuncId}{C D:List SV→Option Con}(h1:FnOk P f C)(h2:FnOk P f D):FnOk P f (fun l=>orC (C l) (D l)):=
 ⟨fun l c hc=>by rcases qX hc with e|e;exact h1.enter l c e;exact h2.enter l c e,
  fun l c hc=>by rcases qX hc with e|e;exact h1.calls l c e;exact h2.calls l c e⟩
def Hu (k:Tag)(i:Nat)(t:List (Nat×SV))(h:List Ob):SV→St
 | .v (.slice none 0 0) =>⟨(i,.os h.length)::t,h++[.row k []]⟩
 |_=>⟨t,h⟩
def JM (k:Tag)(id off:Nat)(t:List (Nat×SV))(h:List Ob)(l:List SV):Option SV→St
 |some (.v (.slice none 0 0)) =>⟨t,bB h id (.cells (l.set off (.os h.length)))++[.row k []]⟩
 |_=>⟨t,h⟩
def MB (k:Tag)(id off:Nat)(t:List (Nat×SV))(h:List Ob):Ob→St
 | .cells l=>JM k id off t h l (nth l off)
 |_=>⟨t,h⟩
def JN (k:Tag)(t:List (Nat×SV))(h:List Ob):SV→St
 | .ptr id off=>MB k id off t h (ah h id)
 |_=>⟨t,h⟩
def CE (k:Tag):ResultVar→List (Nat×SV)→List Ob→St
 | .tmp i,t,h=>Hu k i t h (lk i t)
 | .cell i _,t,h=>JN k t h (lk i t)
def xM:List (ResultVar×Tag)→St→St
 | [],st=>st
 |x::r,st=>xM r (CE x.2 x.1 st.t st.h)
theorem MC (k:Tag)(r:ResultVar)(st:St):NilS st (CE k r st.t st.h):=by
 obtain⟨t,h⟩:=st;cases r with
 |tmp i=>
  show NilS _ (Hu k i t h (lk i t));unfold Hu;split
  ·rename_i e;exact .slot _ (.refl _) e (.inl ⟨_,rfl⟩)
  ·exact .refl _
 |cell i _=>
  show NilS _ (JN k t h (lk i t));unfold JN;split
  ·unfold MB;split
   ·rename_i e;unfold JM;split
    ·rename_i e2;exact .cell _ (.refl _) e (by rw[←dZ];exact e2) (.inl ⟨_,rfl⟩)
    ·exact .refl _
   ·exact .refl _
  ·exact .refl _
theorem NilS.trans {a b c:St}(h1:NilS a b)(h2:NilS b c):NilS a c:=by
 induction h2 with
 |refl=>exact h1
 |cell o _ e1 e2 ho ih=>exact .cell o ih e1 e2 ho
 |slot o _ e1 ho ih=>exact .slot o ih e1 ho
 |slotE k _ e1 ih=>exact .slotE k ih e1
theorem PD (l:List (ResultVar×Tag)):∀ st,NilS st (xM l st):=by
 induction l with
 |nil=>exact fun st=>.refl _
 |cons x r ih=>exact fun st=>(MC x.2 x.1 st).trans (ih _)
def F9 (l:List (ResultVar×Tag))(rs:List ResultVar)(ts:Tis)(post:SV→Prop)(pp:Value→Prop):Ex→St→Prop
 | .exit _,_=>False
 | .normal,st=>dA post (sp true rs ts (xM l st))
 | .ret,st=>dA post (sp true rs ts (xM l st))
 | .pan x,_=>pp x
section
variable {l:List (ResultVar×Tag)}{rs:List ResultVar}{ts:Tis}{post:SV→Prop}{pp:Value→Prop}{st:St}{k:Tag}{i id off:Nat}{t:List (Nat×SV)}{h:List Ob}{m:List SV}
@[go_sem] theorem Sc:F9 l rs ts post pp .ret st=dA post (sp true rs ts (xM l st)):=(rfl)
@[go_sem] theorem MD:F9 l rs ts post pp .normal st=dA post (sp true rs ts (xM l st)):=(rfl)
@[go_sem] theorem Sd {x:Value}:F9 l rs ts post pp (.pan x) st=pp x:=(rfl)
@[go_sem] theorem T8:xM [] st=st:=(rfl)
@[go_sem] theorem Se {r:ResultVar}:xM ((r,k)::l) ⟨t,h⟩=xM l (CE k r t h):=(rfl)
@[go_sem] theorem Sf:CE k (.tmp i) t h=Hu k i t h (lk i t):=(rfl)
@[go_sem] theorem PE {ty:TypeId}:CE k (.cell i ty) t h=JN k t h (lk i t):=(rfl)
@[go_sem] theorem T9:Hu k i t h (.v (.slice none 0 0))=⟨(i,.os h.length)::t,h++[.row k []]⟩:=(rfl)
@[go_sem] theorem VQ:Hu k i t h (.os id)=⟨t,h⟩:=(rfl)
@[go_sem] theorem T_:JN k t h (.ptr id off)=MB k id off t h (ah h id):=(rfl)
@[go_sem] theorem PG:MB k id off t h (.cells m)=JM k id off t h m (nth m off):=(rfl)
@[go_sem] theorem Ua:JM k id off t h m (some (.v (.slice none 0 0)))=⟨t,bB h id (.cells (m.set off (.os h.length)))++[.row k []]⟩:=(rfl)
@[go_sem] theorem VR:JM k id off t h m (some (.os i))=⟨t,h⟩:=(rfl)
attribute [go_sem] List.set_cons_zero
end
section
variable {P:Program}{ts:Tis}{G:Cons}
theorem oS (l:List (ResultVar×Tag)) (hm:P.follows .mixedOrders=true) (hts:ts.ok P) (hG:ConsOk P G) {f:FuncId} {fn:Func} {c:Code} (hf:P.funcs[f]? =some fn) (hb:fn.body=some c) (hname:(fn.name== "runtime.NumGoroutine")=false)
  (hc:b_ fn.ntmps c=true) {C:List SV→Option Con}
  (h:∀ l0 con,C l0=some con→aF con→l0.length≤fn.ntmps∧∃ L,am P none fn.ntmps L c∧exec ts G L c ⟨jH 0 l0,[]⟩ (F9 l fn.results.toList ts (db con) (jo con))):FnOk P f C:=by
 refine⟨fun l con _ args w=>?_,fun l0 con hcon hpre F w vs hF hvs=>?_⟩
 ·have hn:¬fn.name= "runtime.NumGoroutine":=by simpa using hname
  simp[callFunc,hf,hn,hb]
 ·obtain⟨hlen,L,hl,hx⟩:=h l0 con hcon hpre;refine mz (n:=0) (callsIn_of_wp_marks hf hb trivial ?_);have hr:StRel F { w:=w,own:=cp} fn.ntmps cp ⟨jH 0 l0,[]⟩ { tmps:=vs++Array.replicate (fn.ntmps - vs.size) undef,defers:=[]} w:=
   ⟨by have:=hvs.1;simp;omega,Dfr.nil,tC hF,Fr.refl _,fun t=>li hvs _ t⟩
  refine wpIn_mono (lZ hm hts hG c hc hl F _ _ hx cp _ w hr) ?_;intro e a' w' hq;have key:∀ F1 own st,(∀ b,F b→F1 b)→StRel F1 { w:=w,own:=cp} fn.ntmps own st a' w'→dA (db con) (sp true fn.results.toList ts (xM l st))→LeavesInM (rd none) 0 P fn a'.tmps
    (fun e w'=>(∃ s u own',db con s∧e=.returned u∧Handed F w own' w' s u∧Below w.heap.size w w')∨(∃ x,jo con x∧e=.panicked [{ v:=x,recovered:=false}]∧Below w.heap.size w w')) a'.defers .returning w':=by
   intro F1 own0' st0 hF1 hst0 hdone;obtain⟨own,hst⟩:=(PD l st0).rel hst0;generalize xM l st0=st at hst hdone;refine iW hst (by simp) fun w2 hst2=>?_;have hst3:=hst2.less hF1 rfl;unfold sp at hdone;cases hs:lW (kh ts st fn.results.toList)with
   |none=>
    simp only[cond_true,GN]at hdone;rw[hs]at hdone;exact hdone.elim
   |some s=>
    obtain⟨u,e1,e2⟩:=tB (P:=P) hts hst3 hs;refine⟨u,e1,.inl ?_⟩;simp only[cond_true,GN]at hdone;rw[hs]at hdone;change dA (db con) (u9 st.h s)at hdone;cases hg:u9 st.h s with
    |none=>rw[hg]at hdone;exact hdone.elim
    |some s2=>
     rw[hg]at hdone;obtain⟨own',hh⟩:=FF hst3 e2 hg;exact⟨_,u,own',hdone,rfl,hh,lh hst3.fr⟩
  cases e with
  |normal=>obtain⟨F1,own,st,h0,h1,h2⟩:=hq;exact key F1 own st h0 h1 h2
  |ret=>obtain⟨F1,own,st,h0,h1,h2⟩:=hq;exact key F1 own st h0 h1 h2
  |exit id=>obtain⟨F1,own,st,h0,h1,h2⟩:=hq;exact h2.elim
  |panic ch=>
   obtain⟨x,F1,own,st,h0,h1,h2,rfl⟩:=hq;exact iW h1 (by simp) fun w2 hst2=>.inr ⟨x,h2,rfl,lh hst2.fr⟩
  |_=>exact hq.elim
end
end Go.Sx
end
