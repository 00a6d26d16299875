/- Part of the proof that the law ClaimsSpec returns true and leaves its arguments as they were, for all arguments of bulk at most 1048576 (the Upto form). -/
import Derived.Test.YtgdkdhdlfdcefaaGreatC107
import Derived.Test.YtgdkdhdlfdcefaaGreatProg
set_option linter.all false
set_option maxHeartbeats 4000000
set_option maxRecDepth 100000
section
namespace Go.Sx
open Go.Proofs
theorem kr {p:Prop}(h:p:=by kernel_rfl):p:=h
def ti3:TI:=⟨1,8,false,[(.v (.int .i64 0))],[],0,0,false,false,(some .int),(some .i64),false,[],none,none,1⟩
def ti4:TI:=⟨1,1,false,[(.v (.bool false))],[],0,0,false,false,(some .bool),none,false,[],none,none,3⟩
def ti9:TI:=⟨1,16,false,[(.v (.string (ByteArray.mk #[])))],[],0,0,false,false,(some .str),none,false,[],none,none,2⟩
def NX:TI:=⟨2,16,true,[(.v (.int .i64 0)),(.v (.int .i64 0))],[(0,(1,false)),(1,(1,false))],0,0,false,false,(some .tank),none,false,[1,1],none,none,0⟩
def NY:TI:=⟨1,24,false,[(.v (.slice none 0 0))],[],118,0,true,false,none,none,false,[],none,none,0⟩
def NZ:TI:=⟨1,24,false,[(.v (.slice none 0 0))],[],107,0,true,false,none,none,false,[],none,none,0⟩
def N0:TI:=⟨1,24,false,[(.v (.slice none 0 0))],[],120,0,true,false,none,none,false,[],none,none,0⟩
def N1:TI:=⟨1,24,false,[(.v (.slice none 0 0))],[],61,0,true,false,none,none,false,[],none,none,0⟩
def N2:TI:=⟨1,24,false,[(.v (.slice none 0 0))],[],177,0,true,false,none,none,false,[],none,none,0⟩
def N3:TI:=⟨1,24,false,[(.v (.slice none 0 0))],[],265,0,true,false,none,none,false,[],none,none,0⟩
def N4:TI:=⟨10,184,true,[(.v (.string (ByteArray.mk #[]))),(.v (.int .i64 0)),(.v (.int .i64 0)),(.v (.int .i64 0)),(.v (.slice none 0 0)),(.v (.slice none 0 0)),(.v (.slice none 0 0)),(.v (.slice none 0 0)),(.v (.slice none 0 0)),(.v (.slice none 0 0))],[(0,(1,false)),(1,(1,false)),(2,(2,true)),(4,(1,false)),(5,(1,false)),(6,(1,false)),(7,(1,false)),(8,(1,false)),(9,(1,false))],0,0,false,false,(some .district),none,false,[],none,none,0⟩
def N5:TI:=⟨1,24,false,[(.v (.slice none 0 0))],[],74,0,true,false,none,none,false,[],none,none,0⟩
def N6:TI:=⟨1,24,false,[(.v (.slice none 0 0))],[],51,0,true,false,none,none,false,[],none,none,0⟩
def N7:TI:=⟨1,24,false,[(.v (.slice none 0 0))],[],53,0,true,false,none,none,false,[],none,none,0⟩
def N8:TI:=⟨5,40,true,[(.v (.int .i64 0)),(.v (.int .i64 0)),(.v (.int .i64 0)),(.v (.int .i64 0)),(.v (.int .i64 0))],[(0,(1,false)),(1,(1,false)),(2,(1,false)),(3,(1,false)),(4,(1,false))],0,0,false,false,(some .claim),none,false,[1,1,1,1,1],none,none,0⟩
def N9:TI:=⟨4,32,true,[(.v (.int .i64 0)),(.v (.int .i64 0)),(.v (.int .i64 0)),(.v (.int .i64 0))],[(0,(1,false)),(1,(1,false)),(2,(1,false)),(3,(1,false))],0,0,false,false,(some .block),none,false,[1,1,1,1],none,none,0⟩
def N_:TI:=⟨1,24,false,[(.v (.slice none 0 0))],[],58,0,true,false,none,none,false,[],none,none,0⟩
def Oa:TI:=⟨4,32,true,[(.v (.int .i64 0)),(.v (.int .i64 0)),(.v (.int .i64 0)),(.v (.int .i64 0))],[(0,(1,false)),(1,(1,false)),(2,(1,false)),(3,(1,false))],0,0,false,false,(some .holding),none,false,[1,1,1,1],none,none,0⟩
def Oc:TI:=⟨10,88,true,[(.v (.string (ByteArray.mk #[]))),(.v (.int .i64 0)),(.v (.int .i64 0)),(.v (.int .i64 0)),(.v (.int .i64 0)),(.v (.int .i64 0)),(.v (.int .i64 0)),(.v (.int .i64 0)),(.v (.int .i64 0)),(.v (.int .i64 0))],[(0,(1,false)),(1,(1,false)),(2,(1,false)),(3,(1,false)),(4,(1,false)),(5,(1,false)),(6,(1,false)),(7,(1,false)),(8,(1,false)),(9,(1,false))],0,0,false,false,(some .right),none,false,[2,1,1,1,1,1,1,1,1,1],none,none,0⟩
def Od:TI:=⟨1,24,false,[(.v (.slice none 0 0))],[],3,0,true,false,none,none,false,[],none,none,0⟩
def Oe:TI:=⟨1,24,false,[(.v (.slice none 0 0))],[],196,0,true,false,none,none,false,[],none,none,0⟩
def Of:TI:=⟨9,88,true,[(.v (.int .i64 0)),(.v (.int .i64 0)),(.v (.int .i64 0)),(.v (.int .i64 0)),(.v (.int .i64 0)),(.v (.slice none 0 0)),(.v (.int .i64 0)),(.v (.int .i64 0)),(.v (.int .i64 0))],[(0,(1,false)),(1,(1,false)),(2,(1,false)),(3,(1,false)),(4,(1,false)),(5,(1,false)),(6,(1,false)),(7,(1,false)),(8,(1,false))],0,0,false,false,(some .deed),none,false,[],none,none,0⟩
def Og:TI:=⟨1,24,false,[(.v (.slice none 0 0))],[],81,0,true,false,none,none,false,[],none,none,0⟩
def Oh:TI:=⟨6,48,true,[(.v (.int .i64 0)),(.v (.int .i64 0)),(.v (.int .i64 0)),(.v (.int .i64 0)),(.v (.int .i64 0)),(.v (.int .i64 0))],[(0,(5,true)),(5,(1,false))],0,0,false,false,(some .claimsFound),none,false,[1,1,1,1,1,1],none,none,0⟩
def Oi:TI:=⟨1,8,false,[(.v (.map none))],[],3,0,false,false,none,none,false,[],(some .registerTitle),(some .int),0⟩
def Oj:TI:=⟨2,16,true,[(.v (.int .i64 0)),(.v (.int .i64 0))],[(0,(1,false)),(1,(1,false))],0,0,false,false,(some .registerTitle),none,false,[1,1],none,none,0⟩
def H6:TI:=⟨4,40,true,[(.v (.string (ByteArray.mk #[]))),(.v (.int .i64 0)),(.v (.int .i64 0)),(.v (.int .i64 0))],[(0,(1,false)),(1,(1,false)),(2,(1,false)),(3,(1,false))],0,0,false,false,(some .farm),none,false,[2,1,1,1],none,none,0⟩
def H7:TI:=⟨1,8,false,[(.v (.map none))],[],74,0,false,false,none,none,false,[],(some .int),(some .deed),0⟩
def H8:TI:=⟨2,16,true,[(.v (.int .i64 0)),(.v (.int .i64 0))],[(0,(1,false)),(1,(1,false))],0,0,false,false,(some .ratio),none,false,[1,1],none,none,0⟩
def H9:TI:=⟨4,32,true,[(.v (.int .i64 0)),(.v (.int .i64 0)),(.v (.int .i64 0)),(.v (.int .i64 0))],[],113,2,false,true,(some .ratio2),none,false,[],none,none,0⟩
def H_:TI:=⟨2,16,true,[(.v (.int .i64 0)),(.v (.int .i64 0))],[(0,(1,false)),(1,(1,false))],0,0,false,false,(some .range),none,false,[1,1],none,none,0⟩
def Ia:TI:=⟨12,104,true,[(.v (.string (ByteArray.mk #[]))),(.v (.int .i64 0)),(.v (.int .i64 0)),(.v (.int .i64 0)),(.v (.int .i64 0)),(.v (.int .i64 0)),(.v (.int .i64 0)),(.v (.int .i64 0)),(.v (.int .i64 0)),(.v (.int .i64 0)),(.v (.int .i64 0)),(.v (.int .i64 0))],[(0,(1,false)),(1,(1,false)),(2,(1,false)),(3,(1,false)),(4,(1,false)),(5,(1,false)),(6,(2,true)),(8,(4,true))],0,0,false,false,(some .reach),none,false,[],none,none,0⟩
def Ib:TI:=⟨2,24,true,[(.v (.string (ByteArray.mk #[]))),(.v (.int .i64 0))],[(0,(1,false)),(1,(1,false))],0,0,false,false,(some .crop),none,false,[2,1],none,none,0⟩
def Ic:TI:=⟨1,8,false,[(.v (.map none))],[],3,0,false,false,none,none,false,[],(some .int),(some .int),0⟩
def Id:TI:=⟨1,8,false,[(.v (.map none))],[],4,0,false,false,none,none,false,[],(some .claimsUse),(some .bool),0⟩
def Ie:TI:=⟨3,24,true,[(.v (.map none)),(.v (.map none)),(.v (.map none))],[(0,(1,false)),(1,(1,false)),(2,(1,false))],0,0,false,false,(some .claimsLaw),none,false,[],none,none,0⟩
def If:TI:=⟨2,16,true,[(.v (.int .i64 0)),(.v (.int .i64 0))],[(0,(1,false)),(1,(1,false))],0,0,false,false,(some .claimsUse),none,false,[1,1],none,none,0⟩
def Ig:TI:=⟨1,8,false,[(.v (.map none))],[],143,0,false,false,none,none,false,[],(some .int),(some .fnc),0⟩
def Ih:TI:=⟨1,8,false,[(.v (.map none))],[],4,0,false,false,none,none,false,[],(some .int),(some .bool),0⟩
def Ii:TI:=⟨1,8,false,[(.v (.int .u64 0))],[],0,0,false,false,none,(some .u64),false,[],none,none,1⟩
def Ij:TI:=⟨4,40,true,[(.v (.string (ByteArray.mk #[]))),(.v (.int .i64 0)),(.v (.int .i64 0)),(.v (.int .i64 0))],[(0,(1,false)),(1,(1,false)),(2,(1,false)),(3,(1,false))],0,0,false,false,(some .duty),none,false,[2,1,1,1],none,none,0⟩
def Ik:TI:=⟨3,24,true,[(.v (.int .i64 0)),(.v (.int .i64 0)),(.v (.int .i64 0))],[(0,(1,false)),(1,(2,true))],0,0,false,false,(some .part),none,false,[1,1,1],none,none,0⟩
def Il:TI:=⟨1,8,false,[(.v .nilFunc)],[],0,0,false,false,none,none,false,[],none,none,0⟩
def Im:TI:=⟨1,8,true,[(.v .nilFunc)],[(0,(1,false))],0,0,false,false,none,none,false,[],none,none,0⟩
def ts:Tis:=fun t=>(bif Nat.ble t 74 then(bif Nat.ble t 31 then(bif Nat.ble t 24 then(bif Nat.ble t 4 then(bif Nat.ble t 3 then(bif Nat.beq t 3 then some ti3 else none)else(bif Nat.beq t 4 then some ti4 else none))else(bif Nat.ble t 9 then(bif Nat.beq t 9 then some ti9 else none)else(bif Nat.ble t 23 then(bif Nat.beq t 23 then some NX else none)else(bif Nat.beq t 24 then some NY else none))))else(bif Nat.ble t 27 then(bif Nat.ble t 25 then(bif Nat.beq t 25 then some NZ else none)else(bif Nat.ble t 26 then(bif Nat.beq t 26 then some N0 else none)else(bif Nat.beq t 27 then some N1 else none)))else(bif Nat.ble t 28 then(bif Nat.beq t 28 then some N2 else none)else(bif Nat.ble t 29 then(bif Nat.beq t 29 then some N3 else none)else(bif Nat.beq t 31 then some N4 else none)))))else(bif Nat.ble t 53 then(bif Nat.ble t 36 then(bif Nat.ble t 32 then(bif Nat.beq t 32 then some N5 else none)else(bif Nat.ble t 35 then(bif Nat.beq t 35 then some N6 else none)else(bif Nat.beq t 36 then some ti3 else none)))else(bif Nat.ble t 39 then(bif Nat.beq t 39 then some N7 else none)else(bif Nat.ble t 51 then(bif Nat.beq t 51 then some N8 else none)else(bif Nat.beq t 53 then some N9 else none))))else(bif Nat.ble t 61 then(bif Nat.ble t 54 then(bif Nat.beq t 54 then some N_ else none)else(bif Nat.ble t 58 then(bif Nat.beq t 58 then some Oa else none)else(bif Nat.beq t 61 then some Oc else none)))else(bif Nat.ble t 62 then(bif Nat.beq t 62 then some Od else none)else(bif Nat.ble t 72 then(bif Nat.beq t 72 then some Oe else none)else(bif Nat.beq t 74 then some Of else none))))))else(bif Nat.ble t 120 then(bif Nat.ble t 107 then(bif Nat.ble t 81 then(bif Nat.ble t 77 then(bif Nat.beq t 77 then some Og else none)else(bif Nat.beq t 81 then some Oh else none))else(bif Nat.ble t 92 then(bif Nat.beq t 92 then some Oi else none)else(bif Nat.ble t 99 then(bif Nat.beq t 99 then some Oj else none)else(bif Nat.beq t 107 then some H6 else none))))else(bif Nat.ble t 114 then(bif Nat.ble t 110 then(bif Nat.beq t 110 then some H7 else none)else(bif Nat.ble t 113 then(bif Nat.beq t 113 then some H8 else none)else(bif Nat.beq t 114 then some H9 else none)))else(bif Nat.ble t 116 then(bif Nat.beq t 116 then some H_ else none)else(bif Nat.ble t 118 then(bif Nat.beq t 118 then some Ia else none)else(bif Nat.beq t 120 then some Ib else none)))))else(bif Nat.ble t 145 then(bif Nat.ble t 124 then(bif Nat.ble t 121 then(bif Nat.beq t 121 then some Ic else none)else(bif Nat.ble t 122 then(bif Nat.beq t 122 then some Id else none)else(bif Nat.beq t 124 then some Ie else none)))else(bif Nat.ble t 132 then(bif Nat.beq t 132 then some If else none)else(bif Nat.ble t 141 then(bif Nat.beq t 141 then some Ig else none)else(bif Nat.beq t 145 then some Ih else none))))else(bif Nat.ble t 177 then(bif Nat.ble t 153 then(bif Nat.beq t 153 then some Ii else none)else(bif Nat.ble t 170 then(bif Nat.beq t 170 then some ti3 else none)else(bif Nat.beq t 177 then some Ij else none)))else(bif Nat.ble t 196 then(bif Nat.beq t 196 then some Ik else none)else(bif Nat.ble t 225 then(bif Nat.beq t 225 then some Il else none)else(bif Nat.beq t 227 then some Im else none)))))))
theorem RO:cC Tryz.prog 3=some ti3:=by kernel_rfl
theorem RP:cC Tryz.prog 4=some ti4:=by kernel_rfl
theorem RQ:cC Tryz.prog 9=some ti9:=by kernel_rfl
theorem Ok:cC Tryz.prog 23=some NX:=by kernel_rfl
theorem Ol:cC Tryz.prog 24=some NY:=by kernel_rfl
theorem Om:cC Tryz.prog 25=some NZ:=by kernel_rfl
theorem On:cC Tryz.prog 26=some N0:=by kernel_rfl
theorem Oo:cC Tryz.prog 27=some N1:=by kernel_rfl
theorem Oq:cC Tryz.prog 28=some N2:=by kernel_rfl
theorem Ot:cC Tryz.prog 29=some N3:=by kernel_rfl
theorem Ou:cC Tryz.prog 31=some N4:=by kernel_rfl
theorem Ov:cC Tryz.prog 32=some N5:=by kernel_rfl
theorem Ow:cC Tryz.prog 35=some N6:=by kernel_rfl
theorem Ox:cC Tryz.prog 36=some ti3:=by kernel_rfl
theorem Oy:cC Tryz.prog 39=some N7:=by kernel_rfl
theorem Oz:cC Tryz.prog 51=some N8:=by kernel_rfl
theorem OA:cC Tryz.prog 53=some N9:=by kernel_rfl
theorem OB:cC Tryz.prog 54=some N_:=by kernel_rfl
theorem OC:cC Tryz.prog 58=some Oa:=by kernel_rfl
theorem OD:cC Tryz.prog 61=some Oc:=by kernel_rfl
theorem OE:cC Tryz.prog 62=some Od:=by kernel_rfl
theorem OF:cC Tryz.prog 72=some Oe:=by kernel_rfl
theorem OG:cC Tryz.prog 74=some Of:=by kernel_rfl
theorem OH:cC Tryz.prog 77=some Og:=by kernel_rfl
theorem OI:cC Tryz.prog 81=some Oh:=by kernel_rfl
theorem OJ:cC Tryz.prog 92=some Oi:=by kernel_rfl
theorem OK:cC Tryz.prog 99=some Oj:=by kernel_rfl
theorem Lp:cC Tryz.prog 107=some H6:=by kernel_rfl
theorem Lq:cC Tryz.prog 110=some H7:=by kernel_rfl
theorem Lr:cC Tryz.prog 113=some H8:=by kernel_rfl
theorem Ls:cC Tryz.prog 114=some H9:=by kernel_rfl
theorem Lt:cC Tryz.prog 116=some H_:=by kernel_rfl
theorem Lu:cC Tryz.prog 118=some Ia:=by kernel_rfl
theorem Lv:cC Tryz.prog 120=some Ib:=by kernel_rfl
theorem Lw:cC Tryz.prog 121=some Ic:=by kernel_rfl
theorem Lx:cC Tryz.prog 122=some Id:=by kernel_rfl
theorem Ly:cC Tryz.prog 124=some Ie:=by kernel_rfl
theorem Lz:cC Tryz.prog 132=some If:=by kernel_rfl
theorem LA:cC Tryz.prog 141=some Ig:=by kernel_rfl
theorem LB:cC Tryz.prog 145=some Ih:=by kernel_rfl
theorem LD:cC Tryz.prog 153=some Ii:=by kernel_rfl
theorem LF:cC Tryz.prog 170=some ti3:=by kernel_rfl
theorem LG:cC Tryz.prog 177=some Ij:=by kernel_rfl
theorem LH:cC Tryz.prog 196=some Ik:=by kernel_rfl
theorem LI:cC Tryz.prog 225=some Il:=by kernel_rfl
theorem LJ:cC Tryz.prog 227=some Im:=by kernel_rfl
theorem aj:Tis.ok ts Tryz.prog:=(Tis.ok_node (Tis.ok_node (Tis.ok_node (Tis.ok_node (Tis.ok_node (Tis.ok_leaf RO) (Tis.ok_leaf RP)) (Tis.ok_node (Tis.ok_leaf RQ) (Tis.ok_node (Tis.ok_leaf Ok) (Tis.ok_leaf Ol)))) (Tis.ok_node (Tis.ok_node (Tis.ok_leaf Om) (Tis.ok_node (Tis.ok_leaf On) (Tis.ok_leaf Oo))) (Tis.ok_node (Tis.ok_leaf Oq) (Tis.ok_node (Tis.ok_leaf Ot) (Tis.ok_leaf Ou))))) (Tis.ok_node (Tis.ok_node (Tis.ok_node (Tis.ok_leaf Ov) (Tis.ok_node (Tis.ok_leaf Ow) (Tis.ok_leaf Ox))) (Tis.ok_node (Tis.ok_leaf Oy) (Tis.ok_node (Tis.ok_leaf Oz) (Tis.ok_leaf OA)))) (Tis.ok_node (Tis.ok_node (Tis.ok_leaf OB) (Tis.ok_node (Tis.ok_leaf OC) (Tis.ok_leaf OD))) (Tis.ok_node (Tis.ok_leaf OE) (Tis.ok_node (Tis.ok_leaf OF) (Tis.ok_leaf OG)))))) (Tis.ok_node (Tis.ok_node (Tis.ok_node (Tis.ok_node (Tis.ok_leaf OH) (Tis.ok_leaf OI)) (Tis.ok_node (Tis.ok_leaf OJ) (Tis.ok_node (Tis.ok_leaf OK) (Tis.ok_leaf Lp)))) (Tis.ok_node (Tis.ok_node (Tis.ok_leaf Lq) (Tis.ok_node (Tis.ok_leaf Lr) (Tis.ok_leaf Ls))) (Tis.ok_node (Tis.ok_leaf Lt) (Tis.ok_node (Tis.ok_leaf Lu) (Tis.ok_leaf Lv))))) (Tis.ok_node (Tis.ok_node (Tis.ok_node (Tis.ok_leaf Lw) (Tis.ok_node (Tis.ok_leaf Lx) (Tis.ok_leaf Ly))) (Tis.ok_node (Tis.ok_leaf Lz) (Tis.ok_node (Tis.ok_leaf LA) (Tis.ok_leaf LB)))) (Tis.ok_node (Tis.ok_node (Tis.ok_leaf LD) (Tis.ok_node (Tis.ok_leaf LF) (Tis.ok_leaf LG))) (Tis.ok_node (Tis.ok_leaf LH) (Tis.ok_node (Tis.ok_leaf LI) (Tis.ok_leaf LJ)))))))
@[go_sem] theorem ts_3:ts 3=some ti3:=(rfl)
@[go_sem] theorem ts_4:ts 4=some ti4:=(rfl)
@[go_sem] theorem ts_9:ts 9=some ti9:=(rfl)
@[go_sem] theorem ts_23:ts 23=some NX:=(rfl)
@[go_sem] theorem ts_24:ts 24=some NY:=(rfl)
@[go_sem] theorem ts_25:ts 25=some NZ:=(rfl)
@[go_sem] theorem ts_26:ts 26=some N0:=(rfl)
@[go_sem] theorem ts_27:ts 27=some N1:=(rfl)
@[go_sem] theorem ts_28:ts 28=some N2:=(rfl)
@[go_sem] theorem ts_29:ts 29=some N3:=(rfl)
@[go_sem] theorem ts_31:ts 31=some N4:=(rfl)
@[go_sem] theorem ts_32:ts 32=some N5:=(rfl)
@[go_sem] theorem ts_35:ts 35=some N6:=(rfl)
@[go_sem] theorem ts_36:ts 36=some ti3:=(rfl)
@[go_sem] theorem ts_39:ts 39=some N7:=(rfl)
@[go_sem] theorem ts_51:ts 51=some N8:=(rfl)
@[go_sem] theorem ts_53:ts 53=some N9:=(rfl)
@[go_sem] theorem ts_54:ts 54=some N_:=(rfl)
@[go_sem] theorem ts_58:ts 58=some Oa:=(rfl)
@[go_sem] theorem ts_61:ts 61=some Oc:=(rfl)
@[go_sem] theorem ts_62:ts 62=some Od:=(rfl)
@[go_sem] theorem ts_72:ts 72=some Oe:=(rfl)
@[go_sem] theorem ts_74:ts 74=some Of:=(rfl)
@[go_sem] theorem ts_77:ts 77=some Og:=(rfl)
@[go_sem] theorem ts_81:ts 81=some Oh:=(rfl)
@[go_sem] theorem ts_92:ts 92=some Oi:=(rfl)
@[go_sem] theorem ts_99:ts 99=some Oj:=(rfl)
@[go_sem] theorem Yt:ts 107=some H6:=(rfl)
@[go_sem] theorem Yu:ts 110=some H7:=(rfl)
@[go_sem] theorem Yv:ts 113=some H8:=(rfl)
@[go_sem] theorem Yw:ts 114=some H9:=(rfl)
@[go_sem] theorem Yx:ts 116=some H_:=(rfl)
@[go_sem] theorem Yy:ts 118=some Ia:=(rfl)
@[go_sem] theorem Yz:ts 120=some Ib:=(rfl)
@[go_sem] theorem YA:ts 121=some Ic:=(rfl)
@[go_sem] theorem YB:ts 122=some Id:=(rfl)
@[go_sem] theorem YC:ts 124=some Ie:=(rfl)
@[go_sem] theorem YD:ts 132=some If:=(rfl)
@[go_sem] theorem YE:ts 141=some Ig:=(rfl)
@[go_sem] theorem YF:ts 145=some Ih:=(rfl)
@[go_sem] theorem YG:ts 153=some Ii:=(rfl)
@[go_sem] theorem YH:ts 170=some ti3:=(rfl)
@[go_sem] theorem YI:ts 177=some Ij:=(rfl)
@[go_sem] theorem YJ:ts 196=some Ik:=(rfl)
@[go_sem] theorem YK:ts 225=some Il:=(rfl)
@[go_sem] theorem YL:ts 227=some Im:=(rfl)
attribute [go_sem] ti3 ti4 ti9 NX NY NZ N0 N1 N2 N3 N4 N5 N6 N7 N8 N9 N_ Oa Oc Od Oe Of Og Oh Oi Oj H6 H7 H8 H9 H_ Ia Ib Ic Id Ie If Ig Ih Ii Ij Ik Il Im
theorem mixed:Tryz.prog.follows .mixedOrders=true:=by kernel_rfl
def ic:List SV→Option Con
 | [.v (.iface t (.int .i64 e))] =>bif Nat.beq t 170 then some (.det True (.i e))else none
 |_=>none
theorem wQ:FnOk Tryz.prog 64 ic:=by
 have hG:ConsOk Tryz.prog (mkG [] []):=ap (by simp) (by simp);refine aL [.o] mixed aj hG (fn:=Tryz.f64) (c:=ae Tryz.f64) kr kr kr kr fun l con h hp=>?_;unfold ic at h;split at h
 ·rename_i t e;cases ht:Nat.beq t 170 with
  |false=>rw[ht]at h;cases h
  |true=>
   rw[ht]at h;cases h;have ht':=Nat.eq_of_beq_eq_true ht;subst ht';refine⟨nbl rfl,L0,by unfold ae Tryz.f64;simp only[al,and_self],?_⟩;unfold ae Tryz.f64;simp only[go_sem,true_imp_iff,false_imp_iff,Nat.reduceBEq,Nat.reduceLeDiff,Nat.reduceAdd,Nat.reduceSub,Nat.reduceMul,true_and,and_true,implies_true,reduceCtorEq]
 ·cases h
def RR:Value→Option SV
 | .iface t (.int .i64 e) =>bif Nat.beq t 170 then some (.i e)else none
 |_=>none
theorem LK:P_ Tryz.prog 63 RR:=by
 obtain⟨fn,hfn,hbody,hn,hres⟩:∃ fn,Tryz.prog.funcs[63]? =some fn∧fn.body=some (ae Tryz.f63)∧fn.ntmps=7∧fn.results= #[]:=⟨Tryz.f63,by kernel_rfl,by kernel_rfl,by kernel_rfl,by kernel_rfl⟩;have hG:ConsOk Tryz.prog (mkG [(64,ic)] []):=ap (by
  intro x hx;simp only[List.mem_cons,List.not_mem_nil,or_false]at hx;rcases hx with rfl;exact wQ) (by simp)
 refine⟨fun args w=>by kernel_rfl,fun p w=>?_,?_⟩
 ·refine callsDIn_of_wpSIn hfn hbody trivial fun c₀ cs hu=>?_;unfold ae Tryz.f63;refine wpSIn_seq (wpSIn_region ?_);simp[wpOpsSIn,go_sem,recoverD,hu,hn,Exit.thenS,Oper.about,Region.wanted];refine wpSIn_seq (wpSIn_region ?_);simp[wpOpsSIn,go_sem,recoverD,hu,Exit.thenS,Oper.about,Region.wanted];refine wpSIn_cond (t:=false) (by simp[Act.eval]) ?_;simp only[Bool.false_eq_true,if_false];refine wpSIn_of_wpIn rfl (wpIn_skip ?_);cases c₀;simp_all [bodyPostS,results]
 ·intro x s hx F own w h id hd b y hfw hp hob ho hpb;unfold RR at hx;split at hx
  ·rename_i t e;cases ht:Nat.beq t 170 with
   |false=>rw[ht]at hx;cases hx
   |true=>
    rw[ht]at hx;cases hx;have ht':=Nat.eq_of_beq_eq_true ht;subst ht';refine callsDIn_of_wpSIn hfn hbody trivial fun c₀ cs hu=>?_;unfold ae Tryz.f63;refine wpSIn_seq (wpSIn_region ?_);simp[wpOpsSIn,go_sem,recoverD,hu,hn,Exit.thenS,Oper.about,Region.wanted];refine wpSIn_seq (wpSIn_region ?_);simp[wpOpsSIn,go_sem,recoverD,hu,Exit.thenS,Oper.about,Region.wanted];refine wpSIn_cond (t:=true) (by simp[Act.eval]) ?_;simp only[if_true];refine wpSIn_of_wpIn rfl ?_;have hr:StRel F { w:=w,own:=own} 7 own ⟨[(0,.ptr id 0),(1,.v (.iface 170 (.int .i64 e)))],h⟩ { tmps:= #[.pointer (some ⟨b,0,none⟩),.iface 170 (.int .i64 e),.iface 170 (.int .i64 e),.iface 170 (.int .i64 e),.bool true,undef,undef],defers:=[]} w:=by
     refine⟨rfl,Dfr.nil,hp,Fr.refl { w:=w,own:=own},fun t=>?_⟩;rw[l5];by_cases h0:0=t
     ·subst h0;rw[if_pos rfl];exact .ptr ho hpb
     ·rw[if_neg h0,l5];by_cases h1:1=t
      ·subst h1;rw[if_pos rfl];exact .v _
      ·rw[if_neg h1];exact .any _
    refine wpIn_mono (GX (ts:=ts) (L:=L0) (Q:=fun st=>st.h=bI h id (.cells [.i e])) mixed aj hG kr ?_ hr) ?_
    ·simp only[go_sem,hob,uR (h:=h) (i:=id) (o:=.cells [.v (.int .i64 e)]) rfl hfw,ic,Nat.reduceBEq,Nat.reduceLeDiff,Nat.reduceAdd,true_and,and_true,true_imp_iff]
    ·rintro ex a' w' ⟨rfl,own1,st1,hst1,hh⟩;have hd0:a'.defers=[]:=by
      obtain⟨ms,Ds,q0,q1,q2,q3⟩:=hst1.defers;cases Ds with
      |nil=>rw[q0];simp at q1;simp[q1]
      |cons D r=>
       obtain⟨m1,m2,_⟩:=q3 D (by simp);have:=hp.foreign D m2;simp only at m1;omega
     refine⟨hd0,.panicking [{ v:=.iface 170 (.int .i64 e),recovered:=true}],?_,_,by simp[results,hres];rfl,⟨_,rfl⟩,rfl,own1,hh▸hst1.hp,hst1.fr⟩;cases c₀;simp_all
  ·cases hx
attribute [go_sem] ic
abbrev SV.u (n:Nat):SV:=.v (.int .u64 (n:Int))
def A3 (ps:List (Nat×(List SV→Option Con)))(os:List (Nat×(List SV→List Ob→Option HCon)))(Y:List SV→Res→Option YCon):Cons:=⟨mkP ps,mkO os,Y⟩
@[go_sem] theorem YM {ps:List (Nat×(List SV→Option Con))}{os:List (Nat×(List SV→List Ob→Option HCon))}{Y:List SV→Res→Option YCon}:(A3 ps os Y).p=mkP ps:=(rfl)
@[go_sem] theorem YN {ps:List (Nat×(List SV→Option Con))}{os:List (Nat×(List SV→List Ob→Option HCon))}{Y:List SV→Res→Option YCon}:(A3 ps os Y).o=mkO os:=(rfl)
@[go_sem] theorem YO {ps:List (Nat×(List SV→Option Con))}{os:List (Nat×(List SV→List Ob→Option HCon))}{Y:List SV→Res→Option YCon}:(A3 ps os Y).y=Y:=(rfl)
theorem yz {P:Program}{ps:List (Nat×(List SV→Option Con))}{os:List (Nat×(List SV→List Ob→Option HCon))}{Y:List SV→Res→Option YCon}(h1:∀ x∈ps,FnOk P x.1 x.2)(h2:∀ x∈os,FnOkO P x.1 x.2)(h3:YOk P Y):ConsOk P (A3 ps os Y):=⟨GR ps h1,GS os h2,h3⟩
def C90:List SV→List Ob→Option HCon:=fun l h=>noH h ((pU fun n=>pU fun d=>pE { α:=Unit,pre:=True,post:=fun _=>True,res:=fun _=>.ret (.fn 186 [] [.ptr 0 0,.ptr 1 0]) [.cells [.v (.int .u64 n)],.cells [.v (.int .u64 d)]]}) l)
theorem RS:FnOkO Tryz.prog 185 C90:=by
 have hG:ConsOk Tryz.prog (mkG [] []):=ap (by simp) (by simp);refine qi mixed aj hG (fn:=Tryz.f185) (c:=ae Tryz.f185) kr kr kr kr fun l o con h hp=>?_;unfold C90 at h;obtain⟨rfl,h⟩:=H5 h;obtain⟨n,l0,rfl,h0⟩:=C_ h;obtain⟨d,l1,rfl,h1⟩:=C_ h0;obtain⟨rfl,rfl⟩:=uQ h1;refine⟨nbl rfl,L0,by unfold ae Tryz.f185;simp only[al,and_self],?_⟩;unfold ae Tryz.f185;simp only[go_sem,true_imp_iff,decide_eq_true_eq,Nat.reduceBEq,Nat.reduceLeDiff,Nat.reduceAdd,Nat.reduceSub,Nat.reduceMul,true_and,and_true,implies_true];refine⟨(),_,_,[0,1],rfl,?_⟩;simp only[go_sem,Nat.reduceBEq,Nat.reduceLeDiff,Nat.reduceAdd,true_and,and_true];exact⟨rfl,rfl⟩
def wR:Nat→Nat→Nat→List Nat
 |0,n,d=>if n=0 then []else [n,d]
 |f+1,n,d=>if n=0 then []else n::(if n % max d 1=0 then [d]else wR f d (n % max d 1))
def nG (f n d:Nat):List (List SV):=(wR f n d).map fun x=>[SV.u x]
theorem LL (f d:Nat):nG f 0 d=[]:=by cases f <;>rfl
theorem LM {f n d:Nat}(hn:n≠0)(hf:d≤f):∃ T,nG f n d=[SV.u n]::T∧(n % max d 1=0→T=[[SV.u d]])∧(n % max d 1≠0→∃ f',T=nG f' d (n % max d 1)∧n % max d 1≤f'∧n % max d 1<d):=by
 cases f with
 |zero=>
  have hd:d=0:=by omega
  subst hd;refine⟨[[SV.u 0]],by simp[nG,wR,hn],fun _=>rfl,fun h=>?_⟩;exfalso;apply h;simp[Nat.mod_one]
 |succ f=>
  by_cases h0:n % max d 1=0
  ·exact⟨[[SV.u d]],by simp[nG,wR,hn,h0],fun _=>rfl,fun h=>absurd h0 h⟩
  ·refine⟨nG f d (n % max d 1),by simp[nG,wR,hn,h0],fun h=>absurd h h0,fun _=>⟨f,rfl,?_⟩⟩;have hlt:n % max d 1<max d 1:=Nat.mod_lt _ (by omega);have hd:1≤d:=by
    rcases Nat.eq_zero_or_pos d with h|h
    ·subst h;exfalso;apply h0;simp[Nat.mod_one]
    ·exact h
   omega
theorem LN (n d:Nat):((n:Int).tmod (if(d:Int) <1 then 1 else(d:Int)))=((n % max d 1:Nat):Int):=by
 have e:(if(d:Int) <1 then(1:Int)else(d:Int))=((max d 1:Nat):Int):=by split <;>omega
 rw[e,Int.tmod_eq_emod_of_nonneg (by omega)];rfl
open Classical in
theorem RU (n0 d0:Nat):Db Tryz.prog 186 (fun y=>[y,.ptr 1 0,.ptr 2 0]) [.cells [SV.u n0],.cells [SV.u d0]] (nG d0 n0 d0):=by
 refine Ll (fun r hr hy=>?_) (fun args w=>by kernel_rfl);have hG:ConsOk Tryz.prog (A3 [] [] (itY (nG d0 n0 d0) r)):=yz (by simp) (by simp) hy;refine⟨fun l h=>if l=[.os 0,.ptr 1 0,.ptr 2 0]∧h=[.ab (r 1),.cells [SV.u n0],.cells [SV.u d0]]then some { α:=Nat,pre:=True,post:=fun j=>j=0∨j=(nG d0 n0 d0).length+1,res:=fun j=>.ret (.tup []) [.ab (r j),.dead,.dead]}else none,
  ?_,_,if_pos ⟨rfl,rfl⟩,trivial,fun j hj=>⟨_,j,_,rfl,hj⟩⟩
 refine qi mixed aj hG (fn:=Tryz.f186) (c:=ae Tryz.f186) kr kr kr kr fun l o con h hp=>?_;split at h
 ·rename_i hlo;obtain⟨rfl,rfl⟩:=hlo;cases h;refine⟨nbl rfl,fun id st=>bif Nat.beq id 0 then some { α:=Nat×Bool,pre:=lk 0 st.t=.os 0∧lk 1 st.t=.ptr 1 0∧lk 2 st.t=.ptr 2 0∧st.h=[.ab (r 1),.cells [SV.u n0],.cells [SV.u d0]],post:=fun j=>j.1=0∨j.1=(nG d0 n0 d0).length+1,ex:=fun j=>bif j.2 then .ret else .normal,out:=fun j=>⟨[],[.ab (r j.1),.dead,.dead]⟩:LCon}else none,?_,?_⟩
  ·unfold ae Tryz.f186;simp only[al,true_and,and_true];refine zG mixed aj hG kr fun st lc hC hp=>?_;simp only[go_sem,Nat.reduceBEq,Option.some.injEq]at hC;subst hC;obtain⟨t,h⟩:=st;dsimp only at hp;obtain⟨h0,h1,h2,rfl⟩:=hp;refine⟨Nat×Nat×Nat×Nat,fun x=>⟨[(0,.os 0),(1,.ptr 1 0),(2,.ptr 2 0)],[.ab (r (x.1+1)),.cells [SV.u x.2.2.1],.cells [SV.u x.2.2.2]]⟩,fun x=>x.2.2.2≤x.2.1∧(nG d0 n0 d0).drop x.1=nG x.2.1 x.2.2.1 x.2.2.2∧x.1≤(nG d0 n0 d0).length,fun x=>x.2.2.2,(0,d0,n0,d0),[0,1,2],⟨Nat.le_refl _,rfl,Nat.zero_le _⟩,Nat.le_refl _,?_,?_⟩
   ·simp only[go_sem,h0,h1,h2,Nat.reduceBEq,Nat.reduceLeDiff,Nat.reduceAdd,true_and,and_true];decide
   ·rintro⟨k,f,n,d⟩ ⟨hf,hdrop,hk⟩;simp only at hf hdrop hk;refine⟨L0,_,by simp only[al,and_self],fun _ _ q=>q,?_⟩;simp only[go_sem,GU hr,true_imp_iff,decide_eq_true_eq,LN,Bool.false_eq_true,false_imp_iff,Nat.reduceBEq,Nat.reduceLeDiff,Nat.reduceAdd,Nat.reduceSub,Nat.reduceMul,true_and,and_true,implies_true];have hget:∀ (l:List (List SV)) (j:Nat),l=(nG d0 n0 d0).drop k→(nG d0 n0 d0)[k+j]? =l[j]?:=fun l j e=>by rw[e,List.getElem?_drop]
    have hlen:(nG f n d).length=(nG d0 n0 d0).length - k:=by rw[←hdrop,List.length_drop]
    refine⟨fun hn=>?_,fun hn=>?_⟩
    ·have hn':n≠0:=by simpa using hn
     obtain⟨T,e1,e2,e3⟩:=LM hn' hf;have hT:(nG d0 n0 d0).drop (k+1)=T:=by rw[←List.drop_drop,hdrop,e1];rfl
     have h0':=hget _ 0 hdrop.symm;rw[e1]at h0';have hk1:k+1≤(nG d0 n0 d0).length:=by
      have:=(List.getElem?_eq_some_iff.1 h0').1;omega
     refine⟨h0',⟨fun _=>⟨by split <;>omega,rfl,fun h2=>?_,fun h2=>?_⟩,fun h2=>?_⟩,?_⟩
     ·have h3:n % max d 1=0:=by
       have:=eq_of_beq h2;generalize n % max d 1=q at this ⊢;omega
      have hT2:=e2 h3;have hl2:(nG d0 n0 d0).length=k+2:=by
       have:=congrArg List.length hT;rw[hT2,List.length_drop]at this;simp at this;omega
      refine⟨?_,⟨(k+1+2,true),[0,1,2],.inr (by rw[hl2]),rfl,⟨rfl,rfl,rfl⟩,by simp[AX,CI,y4,unp,ai,cr,qI,ru]⟩,⟨(0,true),[0,1,2],.inl rfl,rfl,⟨rfl,rfl,rfl⟩,by simp[AX,CI,y4,unp,ai,cr,qI,ru]⟩⟩;have:(nG d0 n0 d0)[k+1]? =T[0]?:=by rw[←hT,List.getElem?_drop]
      rw[this,hT2];rfl
     ·have h3:n % max d 1≠0:=fun e=>by rw[e]at h2;simp at h2
      obtain⟨f',m1,m2,m3⟩:=e3 h3;exact⟨(k+1,f',d,n % max d 1),[0,1,2],⟨m2,by rw[hT,m1],hk1⟩,m3,⟨rfl,rfl,rfl⟩,by simp[AX,CI,y4,unp,ai,cr,qI,ru,nth,jD,ren]⟩
     ·exact absurd hn (by rw[h2];simp)
     ·exact⟨(0,false),[0,1,2],.inl rfl,rfl,⟨rfl,rfl,rfl⟩,by simp[AX,CI,y4,unp,ai,cr,qI,ru]⟩
    ·have hn':n=0:=by simpa using hn
     subst hn';rw[LL]at hlen;simp at hlen;exact⟨by simpa using hn,(k+1,false),[0,1,2],.inr (by show k+1=_;omega),rfl,⟨rfl,rfl,rfl⟩,by simp[AX,CI,y4,unp,ai,cr,qI,ru]⟩
  ·unfold ae Tryz.f186;simp only[go_sem,true_imp_iff,decide_eq_true_eq,Nat.reduceBEq,Nat.reduceLeDiff,Nat.reduceAdd,Nat.reduceSub,Nat.reduceMul,true_and,and_true,implies_true];rintro⟨j,b⟩ hj;cases b
   ·simp only[go_sem];exact⟨j,_,_,[0,1,2],hj,rfl,Nat.le_refl 3,by simp only[go_sem,Nat.reduceBEq,Nat.reduceLeDiff,Nat.reduceAdd,true_and,and_true];decide⟩
   ·simp only[go_sem];exact⟨j,_,_,[0,1,2],hj,rfl,Nat.le_refl 3,by simp only[go_sem,Nat.reduceBEq,Nat.reduceLeDiff,Nat.reduceAdd,true_and,and_true];decide⟩
 ·cases h
def tH (n d:Nat):Nat:=if d=0 then n else(wR d n d).getLastD d
def C83:List SV→Option Con:=pU fun n=>pU fun d=>pE (.det (0≤n∧0≤d) (SV.u (tH n.toNat d.toNat)))
theorem LO:FnOk Tryz.prog 180 C83:=by
 have hG:ConsOk Tryz.prog (mkG [] [(185,C90)]):=ap (by simp) (by
  intro x hx;simp only[List.mem_cons,List.not_mem_nil,or_false]at hx;rcases hx with rfl;exact RS)
 refine K8 false mixed aj hG (fn:=Tryz.f180) (c:=ae Tryz.f180) kr kr kr kr fun l con h hp=>?_;unfold C83 at h;obtain⟨n',l0,rfl,h0⟩:=C_ h;obtain⟨d',l1,rfl,h1⟩:=C_ h0;obtain⟨rfl,rfl⟩:=uQ h1;clear h h0 h1;obtain⟨hn,hd⟩:=hp;obtain⟨n,rfl⟩:=Int.eq_ofNat_of_zero_le hn;obtain⟨d,rfl⟩:=Int.eq_ofNat_of_zero_le hd;refine⟨nbl rfl,fun id st=>bif Nat.beq id 0 then some { α:=Unit,pre:=st.h=[.cells [SV.u d],.cells [SV.u n],.cells [SV.u d]]∧lk 12 st.t=.fn 186 [] [.ptr 1 0,.ptr 2 0]∧lk 4 st.t=.ptr 0 0,post:=fun _=>True,ex:=fun _=>.normal,out:=fun _=>⟨[(4,.ptr 0 0)],[.cells [SV.u ((wR d n d).getLastD d)],.dead,.dead]⟩:LCon}else none,?_,?_⟩
 ·unfold ae Tryz.f180;simp only[al,true_and,and_true];refine EK mixed aj hG (by decide) (by decide) kr kr fun st lc hC hp=>?_;simp only[go_sem,Nat.reduceBEq,Option.some.injEq]at hC;subst hC;obtain⟨t,h⟩:=st;dsimp only at hp;obtain⟨rfl,h12,h4⟩:=hp;refine⟨186,[.ptr 1 0,.ptr 2 0],nG d n d,Nat,[(4,.ptr 0 0)],fun v=>[.cells [SV.u v],.dead,.dead],fun k v=>v=((wR d n d).take k).getLastD d,fun _ _=>False,d,[0,1,2],h12,rfl,Nat.le_refl _,?_,RU n d,?_,?_,fun _ h=>h.elim,fun _ _ h=>h.elim⟩
  ·show Sub [0,1,2] 3 ⟨t,[.cells [SV.u d],.dead,.dead]⟩ ⟨[(4,.ptr 0 0)],[.cells [SV.u d],.dead,.dead]⟩;simp only[go_sem,h4,Nat.reduceBEq,Nat.reduceLeDiff,Nat.reduceAdd,true_and,and_true];decide
  ·intro k y args hk hI;unfold nG at hk;rw[List.getElem?_map,Option.map_eq_some_iff]at hk;obtain⟨x,hx,rfl⟩:=hk;refine⟨rfl,L0,_,fun l=>by simp only[al],fun l=>by simp only[al],fun _ _ q=>q,?_⟩;show exec ts _ L0 _ ⟨[(13,SV.u x),(4,SV.ptr 0 0)],[.cells [SV.u y],.dead,.dead]⟩ _;simp only[go_sem,true_imp_iff,Nat.reduceBEq,Nat.reduceLeDiff,Nat.reduceAdd,true_and,and_true];refine⟨x,[0,1,2],?_,Nat.le_refl 3,?_⟩
   ·have hlt:=(List.getElem?_eq_some_iff.1 hx).1;have hx2:=(List.getElem?_eq_some_iff.1 hx).2;show x=((wR d n d).take (k+1)).getLastD d;rw[List.take_succ_eq_append_getElem hlt,hx2];simp[List.getLastD_concat]
   ·simp only[go_sem,Nat.reduceBEq,Nat.reduceLeDiff,Nat.reduceAdd,true_and,and_true];decide
  ·intro y hI;refine⟨(),[0,1,2],trivial,rfl,Nat.le_refl _,?_⟩;have hy:y=(wR d n d).getLastD d:=by rw[hI,List.take_of_length_le (by simp[nG])]
   subst hy;show Sub [0,1,2] 3 ⟨[(4,.ptr 0 0)],[.cells [SV.u _],.dead,.dead]⟩ ⟨[(4,.ptr 0 0)],[.cells [SV.u _],.dead,.dead]⟩;simp only[go_sem,Nat.reduceBEq,Nat.reduceLeDiff,Nat.reduceAdd,true_and,and_true];decide
 ·unfold ae Tryz.f180;simp only[go_sem,C90,true_imp_iff,decide_eq_true_eq,Bool.false_eq_true,false_imp_iff,Nat.reduceBEq,Nat.reduceLeDiff,Nat.reduceAdd,Nat.reduceSub,Nat.reduceMul,true_and,and_true,implies_true];refine⟨fun h=>?_,fun h _ _=>?_⟩
  ·have h':d=0:=by simpa using h
   simp[tH,h']
  ·have h':d≠0:=by simpa using h
   simp[tH,h']
attribute [go_sem] C83
end Go.Sx
end
section
namespace Go.Sx
open Go.RowKit
inductive NilS:St→St→Prop where
 |refl (st:St):NilS st st
 |cell {st:St} {t:List (Nat×SV)} {h:List Ob} {i j:Nat} {l:List SV} (o:Ob):NilS st ⟨t,h⟩→ai h i=.cells l→l[j]? =some (.v (.slice none 0 0))→((∃ k,o=.row k [])∨∃ k,o=.grid k [])→NilS st ⟨t,bI h i (.cells (l.set j (.os h.length)))++[o]⟩
 |slot {st:St} {t:List (Nat×SV)} {h:List Ob} {i:Nat} (o:Ob):NilS st ⟨t,h⟩→lk i t=.v (.slice none 0 0)→((∃ k,o=.row k [])∨∃ k,o=.grid k [])→NilS st ⟨(i,.os h.length)::t,h++[o]⟩
 |slotE {st:St} {t:List (Nat×SV)} {h:List Ob} {i:Nat} (k:Tag):NilS st ⟨t,h⟩→lk i t=.e0→NilS st ⟨(i,.os h.length)::t,h++[.row k []]⟩
section
variable {P:Program}{F:Nat→Prop}{w0:Bs}{N:Nat}
theorem BX (h:List Ob)(o:Ob):ai (h++[o]) h.length=o:=by rw[mT,if_neg (by omega)];simp[ai]
theorem In {own:Own}{h:List Ob}{a:Act}{w:World}{t:List (Nat×SV)}(hr:StRel F w0 N own ⟨t,h⟩ a w)(o:Ob)(ho:(∃ k,o=.row k [])∨∃ k,o=.grid k []):
  ∃ own',StRel F w0 N own' ⟨t,h++[o]⟩ a w∧(∀ id hd,own id=some hd→own' id=some hd)∧own' h.length=some { v:=.slice none 0 0}:=by
 let own':Own:=fun id=>if id=h.length then some { v:=.slice none 0 0}else own id
 have hsub:∀ id hd,own id=some hd→own' id=some hd:=fun id hd e=>by
  have:id≠h.length:=by have:=hr.hp.dom id hd e;simp only at this;omega
  simp only[own',if_neg this];exact e
 have hinv:∀ id hd b,own' id=some hd→b∈hd.bs→own id=some hd:=fun id hd b e hb=>by
  by_cases hi:id=h.length
  ·simp only[own',if_pos hi,Option.some.injEq]at e;subst e;cases hb
  ·simpa only[own',if_neg hi]using e
 have hc:Carries F own w F own' w:=⟨fun id hd e=>⟨hd,hsub id hd e,.refl _⟩,fun b _ hn=>⟨by
  rintro (hf| ⟨id,hd,e,hb⟩)
  ·exact hn (.inl hf)
  ·exact hn (.inr ⟨id,hd,hinv id hd b e hb,hb⟩),rfl⟩⟩
 refine⟨own',⟨hr.size,hr.defers,⟨fun id hd e=>?_,hr.hp.foreign,fun id hd b e hb=>hr.hp.apart id hd b (hinv id hd b e hb) hb,fun i j hi hj b e1 e2 b1 b2=>hr.hp.inj i j hi hj b (hinv i hi b e1 b1) (hinv j hj b e2 b2) b1 b2,fun id hd b e hb=>hr.hp.lt id hd b (hinv id hd b e hb) hb,fun id hd=>?_⟩,
  ⟨fun id hd e=>?_,fun id hd b e hb=>hr.fr.base id hd b (hinv id hd b e hb) hb,hr.fr.os,hr.fr.tape,hr.fr.output,hr.fr.size,hr.fr.block⟩,fun t=>(hr.slots t).carry hc⟩,hsub,by simp[own']⟩
 ·simp only[List.length_append,List.length_cons,List.length_nil];by_cases hi:id=h.length
  ·omega
  ·simp only[own',if_neg hi]at e;have:=hr.hp.dom id hd e;simp only at this;omega
 ·simp only at hd ⊢;by_cases hi:id<h.length
  ·rw[mT,if_pos hi]at hd ⊢;obtain⟨hd',e1,e2⟩:=hr.hp.obs id hd;exact⟨hd',hsub id hd' e1,e2.carry hc (Nat.le_refl _) fun _ _=>rfl⟩
  ·by_cases hi2:id=h.length
   ·subst hi2;rw[BX];refine⟨_,by simp[own'];rfl,?_⟩;rcases ho with⟨k,rfl⟩ | ⟨k,rfl⟩
    ·exact .inl ⟨none,rfl,rfl,rfl⟩
    ·exact .inl ⟨rfl,rfl,rfl,rfl⟩
   ·rw[k_ (by simp;omega)]at hd;cases hd
 ·obtain⟨hd',e1,e2⟩:=hr.fr.ids id hd e;exact⟨hd',hsub id hd' e1,e2⟩
theorem LP {own:Own}{h:List Ob}{a:Act}{w:World}{t:List (Nat×SV)}(hr:StRel F w0 N own ⟨t,h⟩ a w)(k:Tag)(ad:Option Addr):
  ∃ own',StRel F w0 N own' ⟨t,h++[.row k []]⟩ a w∧(∀ id hd,own id=some hd→own' id=some hd)∧own' h.length=some { v:=.slice ad 0 0}:=by
 let own':Own:=fun id=>if id=h.length then some { v:=.slice ad 0 0}else own id
 have hsub:∀ id hd,own id=some hd→own' id=some hd:=fun id hd e=>by
  have:id≠h.length:=by have:=hr.hp.dom id hd e;simp only at this;omega
  simp only[own',if_neg this];exact e
 have hinv:∀ id hd b,own' id=some hd→b∈hd.bs→own id=some hd:=fun id hd b e hb=>by
  by_cases hi:id=h.length
  ·simp only[own',if_pos hi,Option.some.injEq]at e;subst e;cases hb
  ·simpa only[own',if_neg hi]using e
 have hc:Carries F own w F own' w:=⟨fun id hd e=>⟨hd,hsub id hd e,.refl _⟩,fun b _ hn=>⟨by
  rintro (hf| ⟨id,hd,e,hb⟩)
  ·exact hn (.inl hf)
  ·exact hn (.inr ⟨id,hd,hinv id hd b e hb,hb⟩),rfl⟩⟩
 refine⟨own',⟨hr.size,hr.defers,⟨fun id hd e=>?_,hr.hp.foreign,fun id hd b e hb=>hr.hp.apart id hd b (hinv id hd b e hb) hb,fun i j hi hj b e1 e2 b1 b2=>hr.hp.inj i j hi hj b (hinv i hi b e1 b1) (hinv j hj b e2 b2) b1 b2,fun id hd b e hb=>hr.hp.lt id hd b (hinv id hd b e hb) hb,fun id hd=>?_⟩,
  ⟨fun id hd e=>?_,fun id hd b e hb=>hr.fr.base id hd b (hinv id hd b e hb) hb,hr.fr.os,hr.fr.tape,hr.fr.output,hr.fr.size,hr.fr.block⟩,fun t=>(hr.slots t).carry hc⟩,hsub,by simp[own']⟩
 ·simp only[List.length_append,List.length_cons,List.length_nil];by_cases hi:id=h.length
  ·omega
  ·simp only[own',if_neg hi]at e;have:=hr.hp.dom id hd e;simp only at this;omega
 ·simp only at hd ⊢;by_cases hi:id<h.length
  ·rw[mT,if_pos hi]at hd ⊢;obtain⟨hd',e1,e2⟩:=hr.hp.obs id hd;exact⟨hd',hsub id hd' e1,e2.carry hc (Nat.le_refl _) fun _ _=>rfl⟩
  ·by_cases hi2:id=h.length
   ·subst hi2;rw[BX];refine⟨_,by simp[own'];rfl,?_⟩;exact .inl ⟨ad,rfl,rfl,rfl⟩
   ·rw[k_ (by simp;omega)]at hd;cases hd
 ·obtain⟨hd',e1,e2⟩:=hr.fr.ids id hd e;exact⟨hd',hsub id hd' e1,e2⟩
theorem NilS.rel {st st':St}(hn:NilS st st'){own:Own}{a:Act}{w:World}(hr:StRel F w0 N own st a w):∃ own',StRel F w0 N own' st' a w:=by
 induction hn with
 |refl=>exact⟨own,hr⟩
 | @slot t h i o _ hl ho ih=>
  obtain⟨own1,h1⟩:=ih;obtain⟨own2,h2,h3,h4⟩:=In h1 o ho;refine⟨own2,h2.size,h2.defers,h2.hp,h2.fr,fun u=>?_⟩;rw[l5];split
  ·rename_i e;subst e;have:=h1.slots i;rw[hl]at this;rw[bX this];exact .os (hd:= { v:=.slice none 0 0}) h4 rfl
  ·exact h2.slots u
 | @slotE t h i k _ hl ih=>
  obtain⟨own1,h1⟩:=ih;have hs:=h1.slots i;rw[hl]at hs;generalize hv:a.tmps.getD i undef=v at hs;cases hs with
  | @e0 ad=>
   obtain⟨own2,h2,h3,h4⟩:=LP h1 k ad;refine⟨own2,h2.size,h2.defers,h2.hp,h2.fr,fun u=>?_⟩;rw[l5];split
   ·rename_i e;subst e;rw[hv];exact .os (hd:= { v:=.slice ad 0 0}) h4 rfl
   ·exact h2.slots u
 | @cell t h i j l o _ hc hl ho ih=>
  obtain⟨own1,h1⟩:=ih;obtain⟨own2,h2,h3,h4⟩:=In h1 o ho;have hlt:i<h.length:=by
   rcases Nat.lt_or_ge i h.length with h'|h'
   ·exact h'
   ·rw[k_ h']at hc;cases hc
  have hlen:(bI h i (.cells (l.set j (.os h.length)))).length=h.length:=by rw[bP,if_pos hlt]
  refine⟨own2,h2.size,h2.defers,⟨fun id hd e=>?_,h2.hp.foreign,h2.hp.apart,h2.hp.inj,h2.hp.lt,fun id hd=>?_⟩,h2.fr,h2.slots⟩
  ·have:=h2.hp.dom id hd e;simp only[List.length_append]at this ⊢;rw[hlen];exact this
  ·simp only at hd ⊢;have hob:=h2.hp.obs id;simp only at hob;by_cases hi:id<h.length
   ·rw[mT,if_pos (by rw[hlen];exact hi)]at hd ⊢;rw[mT,if_pos hi]at hob;rw[cp]at hd ⊢;by_cases hii:i=id
    ·subst hii;rw[if_pos rfl]at hd ⊢;rw[hc]at hob;obtain⟨hd',e1,b,cs,ty,m1,m2,m3,m4,m5⟩:=hob rfl;refine⟨hd',e1,b,cs,ty,m1,m2,m3,by simpa using m4,fun j' s hs=>?_⟩;rw[List.getElem?_set]at hs;by_cases hj:j=j'
     ·subst hj;rw[if_pos rfl]at hs;split at hs
      ·cases hs;have:=m5 j _ hl;rw[bX this];exact .os (hd:= { v:=.slice none 0 0}) h4 rfl
      ·cases hs
     ·rw[if_neg hj]at hs;exact m5 j' s hs
    ·rw[if_neg hii]at hd ⊢;exact hob hd
   ·rw[mT,if_neg (by rw[hlen];exact hi),hlen]at hd ⊢;rw[mT,if_neg hi]at hob;exact hob hd
end
section
variable {P:Program}{F:Nat→Prop}{w0:Bs}{ro:Option Nat}{nd:Nat}{ts:Tis}{G:Cons}{L:rt}{N:Nat}
theorem vL {ts:Tis}{G:Cons}{ro:Option Nat}{N:Nat}(hm:P.follows .mixedOrders=true)(hts:ts.ok P)(hG:ConsOk P G){id:Nat}{c:Code}(hc:cq N c=true){C:St→Option LCon}
  (h:∀ st lc,C st=some lc→lc.pre→∃ (σ:Type) (D:σ→St) (I:σ→Prop) (m:σ→Nat) (x0:σ) (stN:St) (js:List Nat),I x0∧NilS st stN∧st.h.length≤(D x0).h.length∧Sub js st.h.length stN (D x0)∧
   ∀ x,I x→∃ L Qx,al P ro N L c∧(∀ e st',Qx e st'→qK D I m st.h.length x id (fun e st'=>∃ r js,lc.post r∧lc.ex r=e∧st.h.length≤(lc.out r).h.length∧Sub js st.h.length st' (lc.out r)) e st')∧exec ts G L c (D x) Qx):jH P ro N id (.loop c) C:=by
 intro nd F w0 st lc hC hpre own a w hr;obtain⟨σ,D,I,m,x0,stN,js,h1,hN,h2,h3,h4⟩:=h st lc hC hpre;obtain⟨ownN,hrN⟩:=hN.rel hr;refine wpIn_mono (BR hm hts hG hc D I m st.h.length hr.base_lt _ h4 x0 h1 _ a w (hrN.sub h3 hr.base_lt h2)) ?_;intro e a' w' hq;have key:∀ ex F1 own' st',StRel F1 w0 N own' st' a' w'→(∃ r js,lc.post r∧lc.ex r=ex∧st.h.length≤(lc.out r).h.length∧Sub js st.h.length st' (lc.out r))→∃ own2 st2,StRel F1 w0 N own2 st2 a' w'∧∃ r,lc.post r∧ex=lc.ex r∧st2=lc.out r:=by
  rintro ex F1 own' st' hst ⟨r,js,q1,q2,q3,q4⟩;exact⟨_,_,hst.sub q4 hr.base_lt q3,r,q1,q2.symm,rfl⟩
 cases e with
 |normal=>obtain⟨F1,own',st',h0,k1,k2⟩:=hq;obtain⟨own2,st2,q1,q2⟩:=key _ F1 own' st' k1 k2;exact⟨F1,own2,st2,h0,q1,q2⟩
 |exit j=>obtain⟨F1,own',st',h0,k1,k2⟩:=hq;obtain⟨own2,st2,q1,q2⟩:=key _ F1 own' st' k1 k2;exact⟨F1,own2,st2,h0,q1,q2⟩
 |ret=>obtain⟨F1,own',st',h0,k1,k2⟩:=hq;obtain⟨own2,st2,q1,q2⟩:=key _ F1 own' st' k1 k2;exact⟨F1,own2,st2,h0,q1,q2⟩
 |panic ch=>
  obtain⟨x,F1,own',st',h0,k1,k2,k3⟩:=hq;obtain⟨own2,st2,q1,q2⟩:=key _ F1 own' st' k1 k2;exact⟨x,F1,own2,st2,h0,q1,q2,k3⟩
 |_=>exact hq.elim
end
section
variable {P:Program}{ρ σ:Type}
def g5 (st2:St)(n0:Nat)(st:St):Prop:= ∃ js,n0≤st2.h.length∧Sub js n0 st st2
theorem Dd {st2 st:St}{n0:Nat}(js:List Nat)(h1:n0≤st2.h.length)(h2:Sub js n0 st st2):g5 st2 n0 st:=⟨js,h1,h2⟩
def qj (D:Nat→σ→St)(n0 k:Nat)(st:St):ρ⊕σ→Prop
 | .inl _=>False
 | .inr s'=>g5 (D (k+1) s') n0 st
def li (exE:ρ→Ex)(outE:ρ→St)(n0:Nat)(e:Ex)(st:St):ρ⊕σ→Prop
 | .inl x=>exE x=e∧g5 (outE x) n0 st
 | .inr _=>False
def cE (step:Nat→σ→ρ⊕σ)(n:Nat)(exE:ρ→Ex)(outE:ρ→St)(outN:σ→St)(D:Nat→σ→St)(n0 id k:Nat)(s:σ):Ex→St→Prop
 | .normal,st=>k<n∧qj D n0 k st (step k s)
 | .exit j,st=>bif Nat.beq j id then(n≤k→g5 (outN s) n0 st)∧(k<n→li exE outE n0 .normal st (step k s))else k<n∧li exE outE n0 (.exit j) st (step k s)
 | .ret,st=>k<n∧li exE outE n0 .ret st (step k s)
 | .pan x,st=>k<n∧li exE outE n0 (.pan x) st (step k s)
variable {step:Nat→σ→ρ⊕σ}{n n0 id k j:Nat}{exE:ρ→Ex}{outE:ρ→St}{outN:σ→St}{D:Nat→σ→St}{s s':σ}{st:St}{x:Value}{e:Ex}{y:ρ}
@[go_sem] theorem Ui:qj (ρ:=ρ) D n0 k st (.inr s')=g5 (D (k+1) s') n0 st:=(rfl)
@[go_sem] theorem V4:li (σ:=σ) exE outE n0 e st (.inl y)=(exE y=e∧g5 (outE y) n0 st):=(rfl)
@[go_sem] theorem Uj:cE step n exE outE outN D n0 id k s .normal st=(k<n∧qj D n0 k st (step k s)):=(rfl)
@[go_sem] theorem XU:cE step n exE outE outN D n0 id k s (.exit j) st=bif Nat.beq j id then(n≤k→g5 (outN s) n0 st)∧(k<n→li exE outE n0 .normal st (step k s))else k<n∧li exE outE n0 (.exit j) st (step k s):=(rfl)
@[go_sem] theorem YP:cE step n exE outE outN D n0 id k s .ret st=(k<n∧li exE outE n0 .ret st (step k s)):=(rfl)
@[go_sem] theorem YQ:cE step n exE outE outN D n0 id k s (.pan x) st=(k<n∧li exE outE n0 (.pan x) st (step k s)):=(rfl)
@[congr] theorem Qb {r r':ρ⊕σ}(h:r=r'):qj D n0 k st r=qj D n0 k st r':=by rw[h]
end
def fu (p:Prop)(S:SV)(H:List Ob):HCon:= { α:=Unit,pre:=p,post:=fun _=>True,res:=fun _=>.ret S H}
def GZ (n0:Nat)(S:SV)(H:List Ob)(h:List Ob):Option SV→Prop
 |some s=>g5 ⟨[(0,S)],H⟩ n0 ⟨[(0,s)],h⟩
 |none=>False
def LQ (n0:Nat)(rs:List ResultVar)(ts:Tis)(S:SV)(H:List Ob):Ex→St→Prop
 | .exit _,_=>False
 | .normal,st=>GZ n0 S H st.h (n9 (lX ts st rs))
 | .ret,st=>GZ n0 S H st.h (n9 (lX ts st rs))
 | .pan _,_=>False
section
variable {P:Program}{ts:Tis}{G:Cons}{n0:Nat}{S s:SV}{H h:List Ob}{rs:List ResultVar}{st:St}{x:Value}{j:Nat}
@[go_sem] theorem Uk:GZ n0 S H h (some s)=g5 ⟨[(0,S)],H⟩ n0 ⟨[(0,s)],h⟩:=(rfl)
@[go_sem] theorem OL:LQ n0 rs ts S H .normal st=GZ n0 S H st.h (n9 (lX ts st rs)):=(rfl)
@[go_sem] theorem Ul:LQ n0 rs ts S H .ret st=GZ n0 S H st.h (n9 (lX ts st rs)):=(rfl)
@[go_sem high] theorem RV {p:Prop}{ids:List Nat}{d:Option Nat}{K:St→Prop}{Z:Value→St→Prop}:vj ids d st K Z (some (fu p S H))=(p∧F7 ids d st K Z (.ret S H)):=by
 show(p∧∀ r:Unit,True→F7 ids d st K Z (.ret S H))=_;simp
def hCR (t:Tag)(k:List t.T→Option HCon):List Ob→Option HCon
 | [.cells [.os 1],.row k' l] =>if h:k'=t then k (h▸l)else none
 |_=>none
open Classical in
noncomputable def pQ {α:Type 1}(X:SV)(k:List SV→Option α):List SV→Option α
 |s::r=>if s=X then k r else none
 | [] =>none
@[go_sem] theorem pQ_mk {α:Type 1}{X:SV}{k:List SV→Option α}{r:List SV}:pQ X k (X::r)=k r:=by simp[pQ]
theorem zM {α:Type 1}{X:SV}{k:List SV→Option α}{l:List SV}{c:α}(h:pQ X k l=some c):∃ r,l=X::r∧k r=some c:=by
 unfold pQ at h;split at h
 ·split at h
  ·rename_i e;subst e;exact⟨_,rfl,h⟩
  ·cases h
 ·cases h
def pXR {α:Type 1}(t:Tag)(k:List t.T→List SV→Option α):List SV→Option α
 | .ep [.rs k' l] 0::r=>BU t k r k' l
 |_=>none
@[go_sem] theorem YR {α:Type 1}{t:Tag}{k:List t.T→List SV→Option α}{l:List t.T}{r:List SV}:pXR t k (.ep [.rs t l] 0::r)=k l r:=by simp[pXR,BU]
theorem OM {α:Type 1}{t:Tag}{k:List t.T→List SV→Option α}{l:List SV}{c:α}(h:pXR t k l=some c):∃ x r,l=.ep [.rs t x] 0::r∧k x r=some c:=by
 unfold pXR at h;split at h
 ·rename_i k' l' r;unfold BU at h;split at h
  ·rename_i e;subst e;exact⟨_,_,rfl,h⟩
  ·cases h
 ·cases h
theorem gI (hm:P.follows .mixedOrders=true) (hts:ts.ok P) (hG:ConsOk P G) {f:FuncId} {fn:Func} {c:Code} (hf:P.funcs[f]? =some fn) (hb:fn.body=some c) (hname:(fn.name== "runtime.NumGoroutine")=false)
  (hc:cq fn.ntmps c=true) {C:List SV→List Ob→Option HCon}
  (h:∀ l o con,C l o=some con→∃ p S H,con=fu p S H∧(p→l.length≤fn.ntmps∧∃ L,al P none fn.ntmps L c∧exec ts G L c ⟨kY 0 l,o⟩ (LQ o.length fn.results.toList ts S H))):FnOkO P f C:=by
 refine zF hm hts hG hf hb hname hc fun l o con hC hp=>?_;obtain⟨p,S,H,rfl,h2⟩:=h l o con hC;obtain⟨h3,L,h4,h5⟩:=h2 hp;refine⟨h3,L,_,h4,fun e st hq=>?_,h5⟩;cases e with
 |normal=>
  change GZ _ _ _ _ _ at hq;show vn _ _ _ _;cases hs:n9 (lX ts st fn.results.toList)with
  |none=>rw[hs]at hq;exact hq.elim
  |some s=>rw[hs]at hq;obtain⟨js,q1,q2⟩:=hq;exact⟨(),S,H,js,trivial,rfl,q1,q2⟩
 |ret=>
  change GZ _ _ _ _ _ at hq;show vn _ _ _ _;cases hs:n9 (lX ts st fn.results.toList)with
  |none=>rw[hs]at hq;exact hq.elim
  |some s=>rw[hs]at hq;obtain⟨js,q1,q2⟩:=hq;exact⟨(),S,H,js,trivial,rfl,q1,q2⟩
 |exit j=>exact hq.elim
 |pan x=>exact hq.elim
end
end Go.Sx
end
section
namespace Go.Sx
attribute [go_sem] true_imp_iff false_imp_iff Bool.false_eq_true Int.toNat_natCast Int.toNat_zero true_and and_true and_self implies_true forall_const
theorem cl {p:Prop}(h:p:=by(first|done|(repeat' (first|with_reducible refine And.intro ?_ ?_|((with_reducible show _≠_);first|assumption|omega|(simp_all [dy,ev];done) |grind) |with_reducible intro _)) <;>(first|done|with_reducible exact Empty.elim ‹Empty› |with_reducible assumption|rfl|omega|assumption|(simp only[*,cond_true,cond_false,Bool.not_true,Bool.not_false,go_sem,Nat.reduceBEq,Nat.reduceLeDiff,Nat.reduceAdd,Nat.reduceSub,Nat.reduceMul,Int.reduceLE,Int.reduceLT,Int.reduceToNat,Int.reduceNeg,reduceCtorEq];done) |(simp only[*,cond_true,cond_false,Bool.not_true,Bool.not_false,go_sem,Nat.reduceBEq,Nat.reduceLeDiff,Nat.reduceAdd,Nat.reduceSub,Nat.reduceMul,Int.reduceLE,Int.reduceLT,Int.reduceToNat,Int.reduceNeg,reduceCtorEq];(repeat' (first|with_reducible refine And.intro ?_ ?_|((with_reducible show _≠_);first|assumption|omega|(simp_all [dy,ev];done) |grind) |with_reducible intro _)) <;>(first|done|assumption|rfl|omega|(simp_all [dy,ev];done))) |(simp_all [okI,dy,ev];done) |grind))):p:=h
theorem cl2 {p:Prop}(h:p:=by(first|done|(repeat' (first|with_reducible refine And.intro ?_ ?_|((with_reducible show _≠_);first|assumption|omega|(simp_all [dy,ev];done) |grind) |with_reducible intro _)) <;>(first|done|with_reducible exact Empty.elim ‹Empty› |with_reducible assumption|rfl|omega|assumption|(simp only[*,go_sem,Nat.reduceBEq,Nat.reduceLeDiff,Nat.reduceAdd,Nat.reduceSub,Nat.reduceMul,Int.reduceLE,Int.reduceLT,Int.reduceToNat,Int.reduceNeg,reduceCtorEq];done) |(simp_all [dy,ev];done)))):p:=h
inductive JL:List Nat→Prop
 |mk (l:List Nat):JL l
theorem jl (l:List Nat):JL l:=.mk l
theorem fk {st2 st:St}{n0:Nat}{js:List Nat}(_:JL js)(h1:n0≤st2.h.length:=by(first|(show _≤_;decide) |(simp only[*,go_sem,Nat.reduceBEq,Nat.reduceLeDiff,Nat.reduceAdd,Nat.reduceSub,Nat.reduceMul,Int.reduceLE,Int.reduceLT,Int.reduceToNat,Int.reduceNeg,reduceCtorEq];done) |(simp only[*,go_sem,Nat.reduceBEq,Nat.reduceLeDiff,Nat.reduceAdd,Nat.reduceSub,Nat.reduceMul,Int.reduceLE,Int.reduceLT,Int.reduceToNat,Int.reduceNeg,reduceCtorEq];(repeat' (first|with_reducible refine And.intro ?_ ?_|((with_reducible show _≠_);first|assumption|omega|(simp_all [dy,ev];done) |grind) |with_reducible intro _)) <;>(first|rfl|decide|assumption|omega|(simp_all [dy,ev];done)))))(h2:Sub js n0 st st2:=by(first|(show _≤_;decide) |(simp only[*,go_sem,Nat.reduceBEq,Nat.reduceLeDiff,Nat.reduceAdd,Nat.reduceSub,Nat.reduceMul,Int.reduceLE,Int.reduceLT,Int.reduceToNat,Int.reduceNeg,reduceCtorEq];done) |(simp only[*,go_sem,Nat.reduceBEq,Nat.reduceLeDiff,Nat.reduceAdd,Nat.reduceSub,Nat.reduceMul,Int.reduceLE,Int.reduceLT,Int.reduceToNat,Int.reduceNeg,reduceCtorEq];(repeat' (first|with_reducible refine And.intro ?_ ?_|((with_reducible show _≠_);first|assumption|omega|(simp_all [dy,ev];done) |grind) |with_reducible intro _)) <;>(first|rfl|decide|assumption|omega|(simp_all [dy,ev];done))))):g5 st2 n0 st:=Dd js h1 h2
theorem fk2 {st2 st:St}{n0:Nat}{js:List Nat}(_:JL js)(h1:n0≤st2.h.length:=by(first|(show _≤_;decide) |(simp only[go_sem,Nat.reduceBEq,Nat.reduceLeDiff,Nat.reduceAdd,Nat.reduceSub,Nat.reduceMul,Int.reduceLE,Int.reduceLT,Int.reduceToNat,Int.reduceNeg,reduceCtorEq];(repeat' (first|with_reducible refine And.intro ?_ ?_|((with_reducible show _≠_);first|assumption|omega|(simp_all [dy,ev];done) |grind) |with_reducible intro _)) <;>(first|rfl|decide|assumption|omega|(simp_all [dy,ev];done)))))(h2:Sub js n0 st st2:=by(first|(show _≤_;decide) |(simp only[go_sem,Nat.reduceBEq,Nat.reduceLeDiff,Nat.reduceAdd,Nat.reduceSub,Nat.reduceMul,Int.reduceLE,Int.reduceLT,Int.reduceToNat,Int.reduceNeg,reduceCtorEq];(repeat' (first|with_reducible refine And.intro ?_ ?_|((with_reducible show _≠_);first|assumption|omega|(simp_all [dy,ev];done) |grind) |with_reducible intro _)) <;>(first|rfl|decide|assumption|omega|(simp_all [dy,ev];done))))):g5 st2 n0 st:=Dd js h1 h2
theorem cg0 {α:Type _}{p:α→Prop}:∀ x∈([]:List α),p x:=fun _ h=>by cases h
theorem cgc {α:Type _}{p:α→Prop}{a:α}{l:List α}(h:p a)(t:∀ x∈l,p x):∀ x∈a::l,p x:=fun x hx=>by
 rcases List.mem_cons.1 hx with rfl|hx
 ·exact h
 ·exact t x hx
attribute [go_sem] if_true
end Go.Sx
end
section
namespace Go.Sx
open Go.RowKit
open IntKind (i64)
section
variable {P:Program}
end
def okL {ρ σ τ:Type}(step:τ→σ→ρ⊕σ)(p:τ→σ→Prop):List τ→σ→Prop
 | [],_=>True
 |x::l,s=>p x s∧∀ s',step x s=.inr s'→okL step p l s'
section
variable {ρ σ τ:Type}
def rgN (T:List (Nat×SV))(H:σ→List Ob)(n0:Nat)(st:St):ρ⊕σ→Prop
 | .inl _=>False
 | .inr s'=>g5 ⟨T,H s'⟩ n0 ⟨T,st.h⟩
def rgX (exE:ρ→Ex)(T:List (Nat×SV))(Hy:ρ→List Ob)(n0:Nat)(e:Ex)(st:St):ρ⊕σ→Prop
 | .inl y=>exE y=e∧g5 ⟨T,Hy y⟩ n0 ⟨T,st.h⟩
 | .inr _=>False
def rgQ (step:τ→σ→ρ⊕σ)(exE:ρ→Ex)(T:List (Nat×SV))(H:σ→List Ob)(Hy:ρ→List Ob)(n0 id:Nat)(x:τ)(s:σ):Ex→St→Prop
 | .normal,st=>rgN T H n0 st (step x s)
 | .exit j,st=>rgX exE T Hy n0 (bif Nat.beq j id then .normal else .exit j) st (step x s)
 | .ret,st=>rgX exE T Hy n0 .ret st (step x s)
 | .pan _,_=>False
variable {step:τ→σ→ρ⊕σ}{exE:ρ→Ex}{T:List (Nat×SV)}{H:σ→List Ob}{Hy:ρ→List Ob}{n0 id j:Nat}{x:τ}{s s':σ}{y:ρ}{st:St}{e:Ex}
@[go_sem] theorem XV:rgN (ρ:=ρ) T H n0 st (.inr s')=g5 ⟨T,H s'⟩ n0 ⟨T,st.h⟩:=(rfl)
@[go_sem] theorem XW:rgX (σ:=σ) exE T Hy n0 e st (.inl y)=(exE y=e∧g5 ⟨T,Hy y⟩ n0 ⟨T,st.h⟩):=(rfl)
@[go_sem] theorem RW:rgQ step exE T H Hy n0 id x s .normal st=rgN T H n0 st (step x s):=(rfl)
@[go_sem] theorem XX:rgQ step exE T H Hy n0 id x s .ret st=rgX exE T Hy n0 .ret st (step x s):=(rfl)
@[go_sem] theorem V5:rgQ step exE T H Hy n0 id x s (.exit j) st=rgX exE T Hy n0 (bif Nat.beq j id then .normal else .exit j) st (step x s):=(rfl)
@[congr] theorem Um {r r':ρ⊕σ}(h:r=r'):rgN T H n0 st r=rgN T H n0 st r':=by rw[h]
end
section
variable {P:Program}{ts:Tis}{G:Cons}{N:Nat}
theorem wS (hm:P.follows .mixedOrders=true)(hts:ts.ok P)(hG:ConsOk P G){id:Nat}{g:Operand}{ps:Array Tmp}{assign body:Code}{C:St→Option LCon}
  (hpn:ps.toList.Nodup) (hpN:∀ p∈ps.toList,p<N) (hca:cq N assign=true) (hcb:cq N body=true)
  (h:∀ st lc,C st=some lc→lc.pre→∃ (f:FuncId) (caps:List SV) (τ ρ σ:Type) (l:List τ) (mk:τ→List SV) (step:τ→σ→ρ⊕σ) (p:τ→σ→Prop) (pre:Prop) (s0:σ) (exE:ρ→Ex) (outE:ρ→St) (outN:σ→St) (T:List (Nat×SV)) (H:σ→List Ob) (Hy:ρ→List Ob) (js:List Nat),
   raw st.t g=.fn f [] caps∧lc=LC pre (eu step l s0) exE outE outN∧okL step p l s0∧st.h.length≤(H s0).length∧Sub js st.h.length ⟨st.t,sg (kx st caps) st.h⟩ ⟨T,H s0⟩∧
   Db P f (fun y=>y::caps.map (ren (GW (kx st caps)) 3)) (EJ (kx st caps) st.h) (l.map mk)∧
   (∀ x s,p x s→(mk x).length=ps.size∧∃ L,(∀ l,al P (some l) N L assign)∧(∀ l,al P (some l) N L body)∧exec ts G L assign ⟨psT ps.toList (mk x)++T,H s⟩ (fun e st1=>e=.normal∧exec ts G L body st1 (rgQ step exE T H Hy st.h.length id x s)))∧
   (∀ s,g5 (outN s) st.h.length ⟨T,H s⟩)∧∀ y,g5 (outE y) st.h.length ⟨T,Hy y⟩):jH P none N id (.rangeFunc g ps assign body) C:=by
 refine EK hm hts hG hpn hpN hca hcb fun st lc hC hp=>?_;obtain⟨f,caps,τ,ρ,σ,l,mk,step,p,pre,s0,exE,outE,outN,T,H,Hy,js,h1,rfl,h2,h3,h4,h5,h6,h7,h8⟩:=h st lc hC hp;refine⟨f,caps,l.map mk,σ⊕ρ,T,fun z=>match z with| .inl s=>H s| .inr y=>Hy y,fun k z=>match z with| .inl s=>eu step (l.drop k) s=eu step l s0∧okL step p (l.drop k) s| .inr _=>False,
  fun e z=>match z with| .inl _=>False| .inr y=>eu step l s0=.inl y∧(match e with| .ret=>exE y=.ret| .exit j=>exE y=(bif Nat.beq j id then .normal else .exit j) |_=>False),.inl s0,js,h1,⟨rfl,h2⟩,h3,h4,h5,?_,?_,?_,?_⟩
 ·rintro k z args hk hI;cases z with
  |inr y=>exact hI.elim
  |inl s=>
   obtain⟨hrun,hok⟩:=hI;rw[List.getElem?_map,Option.map_eq_some_iff]at hk;obtain⟨x,hx,rfl⟩:=hk;have hlt:=(List.getElem?_eq_some_iff.1 hx).1;have hd:l.drop k=x::l.drop (k+1):=by
    rw[List.drop_eq_getElem_cons hlt];congr 1;exact(List.getElem?_eq_some_iff.1 hx).2
   rw[hd]at hrun hok;obtain⟨hl,L,hla,hlb,hex⟩:=h6 x s hok.1;refine⟨hl,L,_,hla,hlb,?_,hex⟩;intro e st' hq;have fin:∀ e',rgX exE T Hy st.h.length e' st' (step x s)→∃ y js,exE y=e'∧eu step l s0=.inl y∧st.h.length≤(Hy y).length∧Sub js st.h.length ⟨T,st'.h⟩ ⟨T,Hy y⟩:=by
    intro e' q;cases hs:step x s with
    |inr s'=>rw[hs]at q;exact q.elim
    |inl y=>
     rw[hs]at q;obtain⟨q1,js,q2,q3⟩:=q;simp only[eu,hs]at hrun;exact⟨y,js,q1,hrun.symm,q2,q3⟩
   cases e with
   |normal=>
    change rgN T H st.h.length st' (step x s)at hq;cases hs:step x s with
    |inl y=>rw[hs]at hq;exact hq.elim
    |inr s'=>
     rw[hs]at hq;obtain⟨js,q1,q2⟩:=hq;simp only[eu,hs]at hrun;exact⟨.inl s',js,⟨hrun,hok.2 s' hs⟩,q1,q2⟩
   |exit j=>
    obtain⟨y,js,q1,q2,q3,q4⟩:=fin _ hq;exact⟨.inr y,js,⟨q2,q1⟩,q3,q4⟩
   |ret=>
    obtain⟨y,js,q1,q2,q3,q4⟩:=fin _ hq;exact⟨.inr y,js,⟨q2,q1⟩,q3,q4⟩
   |pan x=>exact hq.elim
 ·intro z hI;cases z with
  |inr y=>exact hI.elim
  |inl s=>
   obtain⟨js,q1,q2⟩:=h7 s;have:=hI.1;rw[List.length_map,List.drop_length]at this;exact⟨.inr s,js,this,rfl,q1,q2⟩
 ·intro z hS;cases z with
  |inl s=>exact hS.elim
  |inr y=>
   obtain⟨js,q1,q2⟩:=h8 y;exact⟨.inl y,js,hS.1.symm,hS.2,q1,q2⟩
 ·intro j z hS;cases z with
  |inl s=>exact hS.elim
  |inr y=>
   obtain⟨js,q1,q2⟩:=h8 y;refine⟨.inl y,js,hS.1.symm,?_,q1,q2⟩;have:=hS.2;show exE y=_;rw[this];by_cases hj:j=id
   ·rw[if_pos hj];have hb:Nat.beq j id=true:=by rw[hj];exact Nat.beq_refl id
    rw[hb];rfl
   ·rw[if_neg hj];cases hb:Nat.beq j id with
    |true=>exact absurd (Nat.eq_of_beq_eq_true hb) hj
    |false=>rfl
end
section
variable {P:Program}{ρ σ τ:Type}
def uS:Ob→Option Nat
 | .mi _ _ _ c=>c
 |_=>none
def nxC (step:τ→σ→ρ⊕σ)(l:List τ)(d:τ)(D:List Nat→Option Nat→σ→St)(n0:Nat)(left:List Nat)(s:σ)(st:St):Option Nat→Prop
 |some j=>j∈left∧qj (fun _ s'=>D (left.erase j) (some j) s') n0 0 st (step (l.getD j d) s)
 |none=>False
def exC (step:τ→σ→ρ⊕σ)(l:List τ)(d:τ)(exE:ρ→Ex)(outE:ρ→St)(n0:Nat)(left:List Nat)(s:σ)(e:Ex)(st:St):Option Nat→Prop
 |some j=>j∈left∧li exE outE n0 e st (step (l.getD j d) s)
 |none=>False
def cM (step:τ→σ→ρ⊕σ)(l:List τ)(d:τ)(exE:ρ→Ex)(outE:ρ→St)(outN:σ→St)(D:List Nat→Option Nat→σ→St)(n0 id it:Nat)(left:List Nat)(s:σ):Ex→St→Prop
 | .normal,st=>nxC step l d D n0 left s st (uS (ai st.h it))
 | .exit j,st=>bif Nat.beq j id then(left=[]→g5 (outN s) n0 st)∧(left≠[]→exC step l d exE outE n0 left s .normal st (uS (ai st.h it)))else exC step l d exE outE n0 left s (.exit j) st (uS (ai st.h it))
 | .ret,st=>exC step l d exE outE n0 left s .ret st (uS (ai st.h it))
 | .pan x,st=>exC step l d exE outE n0 left s (.pan x) st (uS (ai st.h it))
variable {step:τ→σ→ρ⊕σ}{l:List τ}{d:τ}{n0 id it j:Nat}{exE:ρ→Ex}{outE:ρ→St}{outN:σ→St}{D:List Nat→Option Nat→σ→St}{left:List Nat}{s s':σ}{st:St}{x:Value}{e:Ex}{y:ρ}{t:List (Nat×SV)}{h:List Ob}
@[go_sem] theorem XY {m:Option Nat}{n:Nat}{left:List Nat}{c:Option Nat}:uS (.mi m n left c)=c:=(rfl)
@[go_sem] theorem V6:nxC step l d D n0 left s st (some j)=(j∈left∧qj (fun _ s'=>D (left.erase j) (some j) s') n0 0 st (step (l.getD j d) s)):=(rfl)
@[go_sem] theorem V7:exC step l d exE outE n0 left s e st (some j)=(j∈left∧li exE outE n0 e st (step (l.getD j d) s)):=(rfl)
@[go_sem] theorem Uo:cM step l d exE outE outN D n0 id it left s .normal ⟨t,h⟩=nxC step l d D n0 left s ⟨t,h⟩ (uS (ai h it)):=(rfl)
@[go_sem] theorem XZ:cM step l d exE outE outN D n0 id it left s (.exit j) ⟨t,h⟩=bif Nat.beq j id then(left=[]→g5 (outN s) n0 ⟨t,h⟩)∧(left≠[]→exC step l d exE outE n0 left s .normal ⟨t,h⟩ (uS (ai h it)))else exC step l d exE outE n0 left s (.exit j) ⟨t,h⟩ (uS (ai h it)):=(rfl)
@[go_sem] theorem YS:cM step l d exE outE outN D n0 id it left s .ret ⟨t,h⟩=exC step l d exE outE n0 left s .ret ⟨t,h⟩ (uS (ai h it)):=(rfl)
@[go_sem] theorem YT:cM step l d exE outE outN D n0 id it left s (.pan x) ⟨t,h⟩=exC step l d exE outE n0 left s (.pan x) ⟨t,h⟩ (uS (ai h it)):=(rfl)
@[congr] theorem V8 {st st':St}{e e':Ex}(h:st=st')(he:e=e'):cM step l d exE outE outN D n0 id it left s e st=cM step l d exE outE outN D n0 id it left s e' st':=by rw[h,he]
attribute [go_sem] Ky
@[go_sem] theorem V9 {t:List (Nat×SV)}{h:List Ob}{d:Nat}{s:SV}:St.put ⟨t,h⟩ (some d) s=⟨(d,s)::t,h⟩:=(rfl)
@[go_sem] theorem V_ {t:List (Nat×SV)}{h:List Ob}{s:SV}:St.put ⟨t,h⟩ none s=⟨t,h⟩:=(rfl)
theorem zN (l:List τ)(d:τ):(List.range l.length).map (fun j=>l.getD j d)=l:=by
 apply List.ext_getElem
 ·simp
 ·intro i h1 h2;simp only[List.length_map,List.length_range]at h1;simp[List.getD_eq_getElem?_getD,List.getElem?_eq_getElem h1]
end
inductive NLoc where
 |slot (i:Nat) (o:Ob)
 |cell (i j:Nat) (o:Ob)
def LR (j n:Nat):Ob→Ob
 | .cells l=>.cells (l.set j (.os n))
 |o=>o
def ON (j:Nat):Ob→Prop
 | .cells l=>nth l j=some (.v (.slice none 0 0))
 |_=>False
def zO:Ob→Prop
 | .row _ l=>l=[]
 | .grid _ l=>l=[]
 |_=>False
def JA:SV→Ob→Prop
 | .v (.slice none 0 0),_=>True
 | .e0,.row _ _=>True
 |_,_=>False
def mkN:List NLoc→St→St
 | [],st=>st
 | .slot i o::r,⟨t,h⟩ =>mkN r ⟨(i,.os h.length)::t,h++[o]⟩
 | .cell i j o::r,⟨t,h⟩ =>mkN r ⟨t,bI h i (LR j h.length (ai h i))++[o]⟩
def okN:List NLoc→St→Prop
 | [],_=>True
 | .slot i o::r,⟨t,h⟩ =>JA (lk i t) o∧zO o∧okN r ⟨(i,.os h.length)::t,h++[o]⟩
 | .cell i j o::r,⟨t,h⟩ =>ON j (ai h i)∧zO o∧okN r ⟨t,bI h i (LR j h.length (ai h i))++[o]⟩
section
variable {i j m n:Nat}{o:Ob}{r:List NLoc}{t t2:List (Nat×SV)}{h h2:List Ob}{l:List SV}{ns:List NLoc}{js:List Nat}{st:St}
@[go_sem] theorem X0:mkN [] st=st:=(rfl)
@[go_sem] theorem Wa:mkN (.slot i o::r) ⟨t,h⟩=mkN r ⟨(i,.os h.length)::t,h++[o]⟩:=(rfl)
@[go_sem] theorem Wb:mkN (.cell i j o::r) ⟨t,h⟩=mkN r ⟨t,bI h i (LR j h.length (ai h i))++[o]⟩:=(rfl)
@[go_sem] theorem X3:okN [] st=True:=(rfl)
@[go_sem] theorem Wc:okN (.slot i o::r) ⟨t,h⟩=(JA (lk i t) o∧zO o∧okN r ⟨(i,.os h.length)::t,h++[o]⟩):=(rfl)
@[go_sem] theorem Wd:okN (.cell i j o::r) ⟨t,h⟩=(ON j (ai h i)∧zO o∧okN r ⟨t,bI h i (LR j h.length (ai h i))++[o]⟩):=(rfl)
@[go_sem] theorem We:JA (.v (.slice none 0 0)) o=True:=by cases o <;>rfl
@[go_sem] theorem X4 {k:Tag}{m:List k.T}:JA .e0 (.row k m)=True:=(rfl)
@[go_sem] theorem RX:LR j n (.cells l)=.cells (l.set j (.os n)):=(rfl)
@[go_sem] theorem RY:ON j (.cells l)=(nth l j=some (.v (.slice none 0 0))):=(rfl)
theorem Io (h:zO o):(∃ k,o=.row k [])∨∃ k,o=.grid k []:=by
 cases o <;>simp only[zO]at h
 ·subst h;exact .inl ⟨_,rfl⟩
 ·subst h;exact .inr ⟨_,rfl⟩
theorem LS {s:SV}{o:Ob}(h:JA s o):s=.v (.slice none 0 0)∨(s=.e0∧∃ k l,o=.row k l):=by
 unfold JA at h;split at h
 ·exact .inl rfl
 ·exact .inr ⟨rfl,_,_,rfl⟩
 ·exact h.elim
theorem uT:∀ (ns:List NLoc) (st0 st:St),NilS st0 st→okN ns st→NilS st0 (mkN ns st)
 | [],_,_,hn,_=>hn
 | .slot i o::r,st0,⟨t,h⟩,hn,hk=>by
  rcases LS hk.1 with e| ⟨e,k,l,ho⟩
  ·exact uT r st0 _ (.slot o hn e (Io hk.2.1)) hk.2.2
  ·have h2:=hk.2.1;have h3:=hk.2.2;rw[ho]at h2 h3;simp only[zO]at h2;subst h2;subst ho;exact uT r st0 _ (.slotE k hn e) h3
 | .cell i j o::r,st0,⟨t,h⟩,hn,hk=>by
  refine uT r st0 _ ?_ hk.2.2;have h1:=hk.1;cases ho:ai h i with
  |cells l=>
   rw[ho]at h1;simp only[ON,et]at h1;exact .cell o hn ho h1 (Io hk.2.1)
  |_=>rw[ho]at h1;exact h1.elim
def qS (m:Nat)(ns:List NLoc)(js:List Nat)(st d:St):Prop:=st.h.length=m∧okN ns st∧m≤d.h.length∧Sub js m (mkN ns st) d
@[go_sem] theorem Uq:qS m ns js ⟨t,h⟩ ⟨t2,h2⟩=(h.length=m∧okN ns ⟨t,h⟩∧m≤h2.length∧Sub js m (mkN ns ⟨t,h⟩) ⟨t2,h2⟩):=(rfl)
end
theorem ag {P:Program}{ro:Option Nat}{N:Nat}(c:Code):al P ro N L0 c:=by
 induction c with
 |seq a b ha hb=>exact⟨ha,hb⟩
 |cond _ a b ha hb=>exact⟨ha,hb⟩
 |block id c hc=>
  cases c with
  |loop c=>exact fun _ _ _ _ _ h=>by cases h
  |rangeFunc f ps a b=>exact fun _ _ _ _ _ h=>by cases h
  |_=>exact hc
 |_=>trivial
section
variable {ρ σ τ:Type}
def pT:Nat→σ→Prop:=fun _ _=>True
@[go_sem] theorem YU {step:Nat→σ→ρ⊕σ}{n i:Nat}{s:σ}:okI step pT n i s=True:=eq_true (iF _ _ _ fun _ _ _ _=>trivial)
def LCR (m:Nat)(ns:List NLoc)(js:List Nat)(D:Nat→σ→St)(step:Nat→σ→ρ⊕σ)(p:Nat→σ→Prop)(n:Nat)(s0:σ)(B:Prop)(exE:ρ→Ex)(outE:ρ→St)(st:St):LCon:=
 LC (qS m ns js st (D 0 s0)∧B∧okI step p n 0 s0) (am step n 0 s0) exE outE (D n)
def LCV (m:Nat)(ns:List NLoc)(js:List Nat)(D:Nat→σ→St)(step:Nat→σ→ρ⊕σ)(p:Nat→σ→Prop)(n:Nat)(s0:σ)(exE:ρ→Ex)(outE:ρ→St)(st:St):LCon:=
 LC (qS m ns js st (D 0 s0)∧okI step p n 0 s0∧∀ s,am step n 0 s0≠ .inr s) (am step n 0 s0) exE outE (D n)
variable {m:Nat}{ns:List NLoc}{js:List Nat}{step:Nat→σ→ρ⊕σ}{p:Nat→σ→Prop}{n:Nat}{s0:σ}{B:Prop}{exE:ρ→Ex}{outE:ρ→St}{outN:σ→St}{st:St}{Q:Ex→St→Prop}
@[go_sem] theorem Ur {D:Nat→σ→St}:oE Q (some (LCR m ns js D step p n s0 B exE outE st))=((qS m ns js st (D 0 s0)∧B∧okI step p n 0 s0)∧(∀ x,am step n 0 s0=.inl x→Q (exE x) (outE x))∧∀ s,am step n 0 s0=.inr s→Q .normal (D n s)):=EG
@[go_sem] theorem Us {D:Nat→σ→St}:oE Q (some (LCV m ns js D step p n s0 exE outE st))=((qS m ns js st (D 0 s0)∧okI step p n 0 s0∧∀ s,am step n 0 s0≠ .inr s)∧∀ x,am step n 0 s0=.inl x→Q (exE x) (outE x)):=by
 refine EG.trans ?_;apply propext;constructor
 ·rintro⟨h1,h2,_⟩;exact⟨h1,h2⟩
 ·rintro⟨h1,h2⟩;exact⟨h1,h2,fun s hs=>absurd hs (h1.2.2 s)⟩
def cR (step:Nat→σ→ρ⊕σ)(exE:ρ→Ex)(outE:ρ→St)(D:Nat→σ→St)(m id k:Nat)(s:σ):Ex→St→Prop
 | .normal,st=>qj D m k st (step k s)
 | .exit j,st=>li exE outE m (bif Nat.beq j id then .normal else .exit j) st (step k s)
 | .ret,st=>li exE outE m .ret st (step k s)
 | .pan x,st=>li exE outE m (.pan x) st (step k s)
def cZ (d:St)(m id:Nat):Ex→St→Prop
 | .exit j,st=>bif Nat.beq j id then g5 d m st else False
 |_,_=>False
variable {D:Nat→σ→St}{id k j:Nat}{s:σ}{x:Value}{d:St}{e e':Ex}
@[go_sem] theorem Ut:cR step exE outE D m id k s .normal st=qj D m k st (step k s):=(rfl)
@[go_sem] theorem X5:cR step exE outE D m id k s (.exit j) st=li exE outE m (bif Nat.beq j id then .normal else .exit j) st (step k s):=(rfl)
@[go_sem] theorem YV:cR step exE outE D m id k s .ret st=li exE outE m .ret st (step k s):=(rfl)
@[go_sem] theorem YW:cR step exE outE D m id k s (.pan x) st=li exE outE m (.pan x) st (step k s):=(rfl)
@[go_sem] theorem X6:cZ d m id (.exit j) st=bif Nat.beq j id then g5 d m st else False:=(rfl)
@[congr] theorem Wf {st':St}(h:st=st')(he:e=e'):cR step exE outE D m id k s e st=cR step exE outE D m id k s e' st':=by rw[h,he]
@[congr] theorem Wg {st':St}(h:st=st')(he:e=e'):cZ d m id e st=cZ d m id e' st':=by rw[h,he]
@[congr] theorem Qc {r r':ρ⊕σ}(h:r=r')(he:e=e'):li exE outE m e st r=li exE outE m e' st r':=by rw[h,he]
end
section
variable {P:Program}{ρ σ τ:Type}{ts:Tis}{G:Cons}{ro:Option Nat}{N:Nat}{id:Nat}{c:Code}{C:St→Option LCon}{m:Nat}{ns:List NLoc}{js:List Nat}{step:Nat→σ→ρ⊕σ}{p:Nat→σ→Prop}{n:Nat}{s0:σ}{exE:ρ→Ex}{outE:ρ→St}{D:Nat→σ→St}
theorem LU {n0:Nat}(hn0:n0=m){s:σ}{k:Nat}(hlt:k<n){I:Nat×σ→Prop}{μ:Nat×σ→Nat}{outN:σ→St}{pre:Prop}{run:ρ⊕σ}
  (hI:∀ s',step k s=.inr s'→I (k+1,s')∧μ (k+1,s') <μ (k,s)) (hx:∀ x,step k s=.inl x→run=.inl x):
  ∀ e st',cR step exE outE D m id k s e st'→qK (fun x:Nat×σ=>D x.1 x.2) I μ n0 (k,s) id (fun e st'=>∃ r js,(LC pre run exE outE outN).post r∧(LC pre run exE outE outN).ex r=e∧n0≤((LC pre run exE outE outN).out r).h.length∧Sub js n0 st' ((LC pre run exE outE outN).out r)) e st':=by
 subst hn0;have hfin:∀ e st',li exE outE n0 e st' (step k s)→∃ r js,(LC pre run exE outE outN).post r∧(LC pre run exE outE outN).ex r=e∧n0≤((LC pre run exE outE outN).out r).h.length∧Sub js n0 st' ((LC pre run exE outE outN).out r):=by
  intro e st' q;cases hs:step k s with
  |inr s'=>rw[hs]at q;exact q.elim
  |inl x=>
   rw[hs]at q;obtain⟨q2,js,q3,q4⟩:=q;exact⟨.inl x,js,(hx x hs).symm,q2,q3,q4⟩
 intro e st' hq;cases e with
 |normal=>
  change qj D n0 k st' (step k s)at hq;cases hs:step k s with
  |inl x=>rw[hs]at hq;exact hq.elim
  |inr s'=>
   rw[hs]at hq;obtain⟨js,q3,q4⟩:=hq;obtain⟨i1,i2⟩:=hI s' hs;exact⟨(k+1,s'),js,i1,i2,q3,q4⟩
 |exit j=>
  change li exE outE n0 (bif Nat.beq j id then .normal else .exit j) st' (step k s)at hq;show bif Nat.beq j id then _ else _;cases hb:Nat.beq j id with
  |true=>rw[hb]at hq;exact hfin _ _ hq
  |false=>rw[hb]at hq;exact hfin _ _ hq
 |ret=>exact hfin _ _ hq
 |pan x=>exact hfin _ _ hq
theorem wT {B:Prop}(hm:P.follows .mixedOrders=true)(hts:ts.ok P)(hG:ConsOk P G)(hc:cq N c=true)(hC:∀ st,C st=some (LCR m ns js D step p n s0 B exE outE st))
  (h:B→∀ k s,k<n→p k s→∃ L Q,al P ro N L c∧(∀ e st',Q e st'→cR step exE outE D m id k s e st')∧exec ts G L c (D k s) Q)
  (h2:B→∀ s,∃ Q,(∀ e st',Q e st'→cZ (D n s) m id e st')∧exec ts G L0 c (D n s) Q):jH P ro N id (.loop c) C:=by
 refine vL hm hts hG hc fun st lc hC' hp=>?_;rw[hC st]at hC';cases hC';obtain⟨⟨hlen,hok,hle,hsub⟩,hB,h1⟩:=hp;refine⟨Nat×σ,fun x=>D x.1 x.2,fun x=>x.1≤n∧okI step p (n - x.1) x.1 x.2∧am step (n - x.1) x.1 x.2=am step n 0 s0,fun x=>n - x.1,(0,s0),mkN ns st,js,⟨Nat.zero_le _,by simpa using h1,by simp⟩,uT ns st st (.refl _) hok,by rw[hlen];exact hle,by rw[hlen];exact hsub,?_⟩;rintro⟨k,s⟩ ⟨hk,hJ,hrun⟩;simp only at hk hJ hrun;rcases Nat.lt_or_ge k n with hlt|hge
 ·rw[show n - k=(n - k - 1)+1 by omega]at hrun hJ;obtain⟨L,Q,hl,hQ,hex⟩:=h hB k s hlt hJ.1;have hI:∀ s',step k s=.inr s'→okI step p (n - (k+1)) (k+1) s'∧am step (n - (k+1)) (k+1) s'=am step n 0 s0:=fun s' hs=>by
   have:=hJ.2 s' hs;rw[show n - k - 1=n - (k+1) by omega]at this hrun;simp only[am,hs]at hrun;exact⟨this,hrun⟩
  have hx:∀ x,step k s=.inl x→am step n 0 s0=.inl x:=fun x hs=>by
   simp only[am,hs]at hrun;exact hrun.symm
  exact⟨L,Q,hl,fun e st' q=>LU hlen hlt (fun s' hs=>⟨⟨hlt,hI s' hs⟩,by simp only;omega⟩) hx e st' (hQ e st' q),hex⟩
 ·have hkn:k=n:=by omega
  subst hkn;obtain⟨Q,hQ,hex⟩:=h2 hB s;refine⟨L0,Q,ag c,fun e st' q=>?_,hex⟩;have hq:=hQ e st' q;simp only[Nat.sub_self,am]at hrun;cases e with
  |exit j=>
   change bif Nat.beq j id then g5 (D k s) m st' else False at hq;show bif Nat.beq j id then _ else _;cases hb:Nat.beq j id with
   |true=>
    rw[hb]at hq;obtain⟨js,q3,q4⟩:=hq;exact⟨.inr s,js,hrun,rfl,by rw[hlen];exact q3,by rw[hlen];exact q4⟩
   |false=>rw[hb]at hq;exact hq.elim
  |_=>exact hq.elim
theorem dp {B:Prop}(hm:P.follows .mixedOrders=true)(hts:ts.ok P)(hG:ConsOk P G)(hc:cq N c=true)(hC:∀ st,C st=some (LCR m ns js D step p n s0 B exE outE st))(M:Int)(hn:n=M.toNat)(hB:B→M<9223372036854775808)
  (h:B→∀ k s,k<n→p k s→i64.wrap ((k:Int)+1)=((k+1:Nat):Int)→decide ((k:Int) <M)=true→∃ L,al P ro N L c∧exec ts G L c (D k s) (cR step exE outE D m id k s))
  (h2:B→∀ s,decide ((n:Int) <M)=false→exec ts G L0 c (D n s) (cZ (D n s) m id)):jH P ro N id (.loop c) C:=by
 refine wT hm hts hG hc hC (fun b k s hlt hp=>?_) fun b s=>⟨_,fun _ _ q=>q,h2 b s ?_⟩
 ·obtain⟨L,h1,h3⟩:=h b k s hlt hp (Ln (hn▸hlt) (hB b)) (decide_eq_true (by omega));exact⟨L,_,h1,fun _ _ q=>q,h3⟩
 ·rw[decide_eq_false_iff_not];omega
theorem c7 (E:Prop)(hm:P.follows .mixedOrders=true)(hts:ts.ok P)(hG:ConsOk P G)(hc:cq N c=true)(hC:∀ st,C st=some (LCR m ns js D step p n s0 True exE outE st))(M:Int)(hn:n=M.toNat)(hE:E→M<9223372036854775808)
  (h:E→∀ k s,k<n→p k s→i64.wrap ((k:Int)+1)=((k+1:Nat):Int)→decide ((k:Int) <M)=true→∃ L,al P ro N L c∧exec ts G L c (D k s) (cR step exE outE D m id k s))
  (h2:E→∀ s,decide ((n:Int) <M)=false→exec ts G L0 c (D n s) (cZ (D n s) m id)) (h3:¬E→∀ k s,exec ts G L0 c (D k s) fun _ _=>False):jH P ro N id (.loop c) C:=by
 by_cases hb:E
 ·refine wT hm hts hG hc hC (fun b k s hlt hp=>?_) fun b s=>⟨_,fun _ _ q=>q,h2 hb s ?_⟩
  ·obtain⟨L,h1,h4⟩:=h hb k s hlt hp (Ln (hn▸hlt) (hE hb)) (decide_eq_true (by omega));exact⟨L,_,h1,fun _ _ q=>q,h4⟩
  ·rw[decide_eq_false_iff_not];omega
 ·exact wT hm hts hG hc hC (fun _ k s _ _=>⟨L0,_,ag c,fun _ _ q=>q.elim,h3 hb k s⟩) fun _ s=>⟨_,fun _ _ q=>q.elim,h3 hb n s⟩
theorem dR (hm:P.follows .mixedOrders=true)(hts:ts.ok P)(hG:ConsOk P G)(hc:cq N c=true)(hC:∀ st,C st=some (LCV m ns js D step p n s0 exE outE st))
  (h:∀ k s,p k s→∃ L,al P ro N L c∧exec ts G L c (D k s) (cR step exE outE D m id k s)):jH P ro N id (.loop c) C:=by
 refine vL hm hts hG hc fun st lc hC' hp=>?_;rw[hC st]at hC';cases hC';obtain⟨⟨hlen,hok,hle,hsub⟩,h1,hno⟩:=hp;refine⟨Nat×σ,fun x=>D x.1 x.2,fun x=>x.1≤n∧okI step p (n - x.1) x.1 x.2∧am step (n - x.1) x.1 x.2=am step n 0 s0,fun x=>n - x.1,(0,s0),mkN ns st,js,⟨Nat.zero_le _,by simpa using h1,by simp⟩,uT ns st st (.refl _) hok,by rw[hlen];exact hle,by rw[hlen];exact hsub,?_⟩;rintro⟨k,s⟩ ⟨hk,hJ,hrun⟩;simp only at hk hJ hrun;have hlt:k<n:=by
  rcases Nat.lt_or_ge k n with h|h
  ·exact h
  ·have hkn:k=n:=by omega
   subst hkn;simp only[Nat.sub_self,am]at hrun;exact absurd hrun.symm (hno s)
 rw[show n - k=(n - k - 1)+1 by omega]at hrun hJ;obtain⟨L,hl,hex⟩:=h k s hJ.1;have hI:∀ s',step k s=.inr s'→okI step p (n - (k+1)) (k+1) s'∧am step (n - (k+1)) (k+1) s'=am step n 0 s0:=fun s' hs=>by
  have:=hJ.2 s' hs;rw[show n - k - 1=n - (k+1) by omega]at this hrun;simp only[am,hs]at hrun;exact⟨this,hrun⟩
 have hx:∀ x,step k s=.inl x→am step n 0 s0=.inl x:=fun x hs=>by
  simp only[am,hs]at hrun;exact hrun.symm
 exact⟨L,_,hl,fun e st' q=>LU hlen hlt (fun s' hs=>⟨⟨hlt,hI s' hs⟩,by simp only;omega⟩) hx e st' q,hex⟩
theorem fK {α:Type}{l:List α}(h:l.length≤aU):(l.length:Int) <9223372036854775808:=by unfold aU at h;omega
end
section
universe u
variable {α:Type u}{G:List SV→α→Prop}{r:List SV}
theorem aM {k:Int→List SV→Option α}(h:∀ n l c,k n l=some c→G (.v (.int .i64 n)::l) c):∀ l c,pI k l=some c→G l c:=fun l c hc=>by
 obtain⟨n,r,rfl,h1⟩:=Lh hc;exact h n r c h1
theorem wU {k:Bool→List SV→Option α}(h:∀ n l c,k n l=some c→G (.v (.bool n)::l) c):∀ l c,pB k l=some c→G l c:=fun l c hc=>by
 obtain⟨n,r,rfl,h1⟩:=RH hc;exact h n r c h1
theorem cI {t:Tag}{k:List t.T→List SV→Option α}(h:∀ n l c,k n l=some c→G (.rs t n::l) c):∀ l c,pR t k l=some c→G l c:=fun l c hc=>by
 obtain⟨n,r,rfl,h1⟩:=RI hc;exact h n r c h1
theorem aI {t:Tag}{k:t.T→List SV→Option α}(h:∀ n l c,k n l=some c→G (.agg (cellsOf t n)::l) c):∀ l c,pD t k l=some c→G l c:=fun l c hc=>by
 obtain⟨n,r,rfl,h1⟩:=Lk hc;exact h n r c h1
theorem sh {t:Tag}{k:t.T→List SV→Option α}(h:∀ n l c,k n l=some c→G (.ep (cellsOf t n) 0::l) c):∀ l c,pX t k l=some c→G l c:=fun l c hc=>by
 obtain⟨n,r,rfl,h1⟩:=Li hc;exact h n r c h1
theorem RZ {t t2:Tag}{k:List (t.T×t2.T)→List SV→Option α}(h:∀ n l c,k n l=some c→G (.rm t t2 n::l) c):∀ l c,pM t t2 k l=some c→G l c:=fun l c hc=>by
 obtain⟨n,r,rfl,h1⟩:=Lj hc;exact h n r c h1
theorem aw {c0:α}(h:G [] c0):∀ l c,pE c0 l=some c→G l c:=fun l c hc=>by
 obtain⟨rfl,rfl⟩:=uQ hc;exact h
end
section
universe u
variable {α:Type u}{G:List SV→α→Prop}
def apO:Option (List SV→Option α)→List SV→Option α
 |some q,r=>q r
 |none,_=>none
@[go_sem] theorem Wh {q:List SV→Option α}{r:List SV}:apO (some q) r=q r:=(rfl)
@[go_sem] theorem Wi {r:List SV}:apO (α:=α) none r=none:=(rfl)
def pFn (f:Nat)(k:List SV→Option (List SV→Option α)):List SV→Option α
 | .fn g [] caps::r=>bif Nat.beq g f then apO (k caps) r else none
 |_=>none
def pXF (f:Nat)(k:List SV→Option (List SV→Option α)):List SV→Option α
 | .ep [.fn g [] caps] 0::r=>bif Nat.beq g f then apO (k caps) r else none
 |_=>none
@[go_sem] theorem YX {f g:Nat}{k:List SV→Option (List SV→Option α)}{caps r:List SV}:pFn f k (.fn g [] caps::r)=bif Nat.beq g f then apO (k caps) r else none:=(rfl)
@[go_sem] theorem YY {f g:Nat}{k:List SV→Option (List SV→Option α)}{caps r:List SV}:pXF f k (.ep [.fn g [] caps] 0::r)=bif Nat.beq g f then apO (k caps) r else none:=(rfl)
theorem OO {o:Option (List SV→Option α)}{r:List SV}{c:α}(h:apO o r=some c):∃ q,o=some q∧q r=some c:=by
 cases o with
 |none=>cases h
 |some q=>exact⟨q,rfl,h⟩
theorem vM {f:Nat}{k:List SV→Option (List SV→Option α)}(h:∀ caps q,k caps=some q→∀ l c,q l=some c→G (.fn f [] caps::l) c):∀ l c,pFn f k l=some c→G l c:=fun l c hc=>by
 unfold pFn at hc;split at hc
 ·rename_i g caps r;cases hb:Nat.beq g f with
  |false=>rw[hb]at hc;cases hc
  |true=>
   rw[hb]at hc;obtain⟨q,h1,h2⟩:=OO hc;have:=Nat.eq_of_beq_eq_true hb;subst this;exact h caps q h1 r c h2
 ·cases hc
def pFB (f:Nat)(k:List SV→Option (List SV→Option α)):List SV→Option α
 | .fn g caps []::r=>bif Nat.beq g f then apO (k caps) r else none
 |_=>none
def Wj (f:Nat)(k:List SV→Option (List SV→Option α)):List SV→Option α
 | .ep [.fn g caps []] 0::r=>bif Nat.beq g f then apO (k caps) r else none
 |_=>none
@[go_sem] theorem YZ {f g:Nat}{k:List SV→Option (List SV→Option α)}{caps r:List SV}:pFB f k (.fn g caps []::r)=bif Nat.beq g f then apO (k caps) r else none:=(rfl)
@[go_sem] theorem X7 {f g:Nat}{k:List SV→Option (List SV→Option α)}{caps r:List SV}:Wj f k (.ep [.fn g caps []] 0::r)=bif Nat.beq g f then apO (k caps) r else none:=(rfl)
@[go_sem] theorem Y0 {f g:Nat}{k:List SV→Option (List SV→Option α)}{b c r:List SV}{x:SV}:pFB f k (.fn g b (x::c)::r)=none:=(rfl)
@[go_sem] theorem X8 {f g:Nat}{k:List SV→Option (List SV→Option α)}{b c r:List SV}{x:SV}:Wj f k (.ep [.fn g b (x::c)] 0::r)=none:=(rfl)
@[go_sem] theorem Y3 {f g:Nat}{k:List SV→Option (List SV→Option α)}{b c r:List SV}{x:SV}:pFn f k (.fn g (x::b) c::r)=none:=(rfl)
@[go_sem] theorem Y4 {f g:Nat}{k:List SV→Option (List SV→Option α)}{b c r:List SV}{x:SV}:pXF f k (.ep [.fn g (x::b) c] 0::r)=none:=(rfl)
end
def pXX {α:Type 1}(t:Tag)(k:t.T→List SV→Option α):List SV→Option α
 | .ep [s] 0::r=>pX t k (s::r)
 |_=>none
@[go_sem] theorem Wk {α:Type 1}{t:Tag}{k:t.T→List SV→Option α}{s:SV}{r:List SV}:pXX t k (.ep [s] 0::r)=pX t k (s::r):=(rfl)
theorem OP {α:Type 1}{G:List SV→α→Prop}{t:Tag}{k:List t.T→List SV→Option α}(h:∀ n l c,k n l=some c→G (.ep [.rs t n] 0::l) c):∀ l c,pXR t k l=some c→G l c:=fun l c hc=>by
 obtain⟨n,r,rfl,h1⟩:=OM hc;exact h n r c h1
def G0 (k:Tag)(K:List k.T→Option HCon):List Ob→Option HCon
 | [.row k' l] =>if h:k'=k then K (h▸l)else none
 |_=>none
@[go_sem] theorem X9 {k:Tag}{K:List k.T→Option HCon}{l:List k.T}:G0 k K [.row k l]=K l:=by simp[G0]
theorem EN {k:Tag}{K:List k.T→Option HCon}{h:List Ob}{c:HCon}(hh:G0 k K h=some c):∃ l,h=[.row k l]∧K l=some c:=by
 unfold G0 at hh;split at hh
 ·split at hh
  ·rename_i e;subst e;exact⟨_,rfl,hh⟩
  ·cases hh
 ·cases hh
end Go.Sx
end
section
namespace Go.Sx
open Go.Proofs
open IntKind (i64 u64)
theorem czl {p:Prop}(h:p:=by first|(simp only[*,cond_true,cond_false,Bool.not_true,Bool.not_false,go_sem,Nat.reduceBEq,Nat.reduceLeDiff,Nat.reduceLT,decide_true,Nat.reduceAdd,Nat.reduceSub,Nat.reduceMul,Int.reduceLE,Int.reduceLT,Int.reduceToNat,Int.reduceNeg,reduceCtorEq];done) |fail):p:=h
theorem zP {l0:List Nat}(a0:JL l0){p:Prop}(h:JL l0→p:=by intro ja;(first|done|(repeat' (first|with_reducible refine And.intro ?_ ?_|((with_reducible show _≠_);first|assumption|omega|(simp_all [dy,ev];done) |grind) |with_reducible intro _)) <;>(first|done|with_reducible exact Empty.elim ‹Empty› |with_reducible assumption|rfl|omega|assumption|decide|exact fk ja|exact czl|(simp only[*,cond_true,cond_false,Bool.not_true,Bool.not_false,go_sem,Nat.reduceBEq,Nat.reduceLeDiff,Nat.reduceLT,decide_true,Nat.reduceAdd,Nat.reduceSub,Nat.reduceMul,Int.reduceLE,Int.reduceLT,Int.reduceToNat,Int.reduceNeg,reduceCtorEq];(repeat' (first|with_reducible refine And.intro ?_ ?_|((with_reducible show _≠_);first|assumption|omega|(simp_all [dy,ev];done) |grind) |with_reducible intro _)) <;>(first|done|assumption|rfl|omega|decide|exact fk ja|(simp_all [dy,ev];done))) |(simp_all [okI,dy,ev];done) |(simp_all [dy,ev];(first|done|exact fk2 ja)) |exact fk2 ja))):p:=h a0
theorem bF {l0:List Nat}(a0:JL l0){p:Prop}(h:JL l0→p:=by intro ja;simp only[go_sem,Nat.reduceBEq,Nat.reduceLeDiff,Nat.reduceLT,decide_true,Nat.reduceAdd,Nat.reduceSub,Nat.reduceMul,Int.reduceLE,Int.reduceLT,Int.reduceToNat,Int.reduceNeg,reduceCtorEq,hc,hw];all_goals exact zP ja):p:=h a0
theorem bG {l0:List Nat}(a0:JL l0){p:Prop}(h:JL l0→p:=by intro ja;simp only[go_sem,Nat.reduceBEq,Nat.reduceLeDiff,Nat.reduceLT,decide_true,Nat.reduceAdd,Nat.reduceSub,Nat.reduceMul,Int.reduceLE,Int.reduceLT,Int.reduceToNat,Int.reduceNeg,reduceCtorEq,hc];all_goals exact zP ja):p:=h a0
def ip (x:Int):Bool:=false
@[go_sem] def rz:List SV→Option Con:=(pI fun x=>(pE (.det True (.v (.bool (ip x))))))
theorem zq1 {p:Prop}(h:p:=by simp only[go_sem,Nat.reduceBEq,Nat.reduceLeDiff,Nat.reduceLT,decide_true,Nat.reduceAdd,Nat.reduceSub,Nat.reduceMul,Int.reduceLE,Int.reduceLT,Int.reduceToNat,Int.reduceNeg,reduceCtorEq];all_goals exact cl):p:=h
theorem wV:FnOk Tryz.prog 79 rz:=by
 have hG:ConsOk Tryz.prog (mkG [] []):=ap cg0 cg0;refine aL [.o] mixed aj hG (fn:=Tryz.f79) (c:=ae Tryz.f79) kr kr kr kr (aM fun x=>(aw (fun hp=>?_)));dsimp only[av]at hp;refine⟨nbl rfl,L0,ag _,?_⟩
 ·unfold ae Tryz.f79;try unfold ip
  exact zq1
def cd (x:Int)(y:Int):Int:=(bif(ip x)then(bif(ip y)then 0 else(-1))else(bif(ip y)then 1 else(bif(decide (x<y))then(-1)else(bif(decide (x > y))then 1 else 0))))
@[go_sem] def gh:List SV→Option Con:=(pI fun x=>(pI fun y=>(pE (.det True (.v (.int .i64 (cd x y)))))))
theorem g6:FnOk Tryz.prog 45 gh:=by
 have hG:ConsOk Tryz.prog (mkG [(79,rz)] []):=ap (cgc wV cg0) cg0;refine aL [.o] mixed aj hG (fn:=Tryz.f45) (c:=ae Tryz.f45) kr kr kr kr (aM fun x=>(aM fun y=>(aw (fun hp=>?_))));dsimp only[av]at hp;refine⟨nbl rfl,L0,ag _,?_⟩
 ·unfold ae Tryz.f45;try unfold cd
  exact zq1
def an (n:Int):Int:=(bif(decide (n<0))then(u64.wrap (0 - (u64.wrap n)))else(u64.wrap n))
@[go_sem] def lj:List SV→Option Con:=(pI fun n=>(pE (.det True (.v (.int .u64 (an n))))))
theorem oM:FnOk Tryz.prog 181 lj:=by
 have hG:ConsOk Tryz.prog (mkG [] []):=ap cg0 cg0;refine aL [.o] mixed aj hG (fn:=Tryz.f181) (c:=ae Tryz.f181) kr kr kr kr (aM fun n=>(aw (fun hp=>?_)));dsimp only[av]at hp;refine⟨nbl rfl,L0,ag _,?_⟩
 ·unfold ae Tryz.f181;try unfold an
  exact zq1
def aH (a:Ratio):Int:=(bif(((((decide (a.d<1)) ||(decide (a.d > 1073741824))) ||(decide (a.n< (-1073741824)))) ||(decide (a.n > 1073741824))) ||(((tH (Int.toNat (an a.n)) (Int.toNat (u64.wrap a.d)):Nat):Int) !=1))then 120 else 0)
def tZ (a:Ratio):Prop:=(((((decide (a.d<1)) ||(decide (a.d > 1073741824))) ||(decide (a.n< (-1073741824)))) ||(decide (a.n > 1073741824)))=false→(0≤(an a.n)∧0≤(u64.wrap a.d)))
theorem zQ (n:Int):0≤u64.wrap n:=by
 simp[IntKind.wrap,IntKind.bits,IntKind.signed];omega
theorem wW (n:Int):0≤an n:=by
 unfold an;cases decide (n<0) <;>exact zQ _
theorem zR (a:Ratio):tZ a:=fun _=>⟨wW _,zQ _⟩
@[go_sem] def mB:List SV→Option Con:=(pD .ratio fun a=>(pE (.det True (.v (.int .i64 (aH a))))))
theorem zq4 {p:Prop}(h:p:=by simp only[go_sem,Nat.reduceBEq,Nat.reduceLeDiff,Nat.reduceLT,decide_true,Nat.reduceAdd,Nat.reduceSub,Nat.reduceMul,Int.reduceLE,Int.reduceLT,Int.reduceToNat,Int.reduceNeg,reduceCtorEq,C83];all_goals exact cl):p:=h
theorem oN:FnOk Tryz.prog 165 mB:=by
 have hG:ConsOk Tryz.prog (mkG [(180,C83),(181,lj)] []):=ap (cgc LO (cgc oM cg0)) cg0;refine aL [.o] mixed aj hG (fn:=Tryz.f165) (c:=ae Tryz.f165) kr kr kr kr (aI fun a=>(aw (fun hp=>?_)));dsimp only[av]at hp;have hp:=zR a;unfold tZ at hp;refine⟨nbl rfl,L0,ag _,?_⟩
 ·unfold ae Tryz.f165;try unfold aH
  exact zq4
def l8 (a:Ratio)(b:Ratio):Int×Int:=(bif(((aH a) !=0) ||((aH b) !=0))then(0,120)else((cd (i64.wrap (a.n*b.d)) (i64.wrap (b.n*a.d))),0))
@[go_sem] def xD:List SV→Option Con:=(pD .ratio fun a=>(pD .ratio fun b=>(pE (.det True (.tup [.v (.int .i64 ((l8 a b).1)),.v (.int .i64 ((l8 a b).2))])))))
theorem De:FnOk Tryz.prog 163 xD:=by
 have hG:ConsOk Tryz.prog (mkG [(45,gh),(165,mB)] []):=ap (cgc g6 (cgc oN cg0)) cg0;refine aL [.o,.o] mixed aj hG (fn:=Tryz.f163) (c:=ae Tryz.f163) kr kr kr kr (aI fun a=>(aI fun b=>(aw (fun hp=>?_))));dsimp only[av]at hp;refine⟨nbl rfl,L0,ag _,?_⟩
 ·unfold ae Tryz.f163;try unfold l8
  exact zq1
def A4 (ok:Bool)(e:Int):Unit:=(bif(!ok)then default else())
def ct (ok:Bool)(e:Int):Bool:=(bif(!ok)then false else true)
@[go_sem] def nH:List SV→Option Con:=(pB fun ok=>(pI fun e=>(pE (.may (ct ok e) (.tup []) (.iface 170 (.int .i64 e))))))
theorem qk:FnOk Tryz.prog 65 nH:=by
 have hG:ConsOk Tryz.prog (mkG [] []):=ap cg0 cg0;refine aL [] mixed aj hG (fn:=Tryz.f65) (c:=ae Tryz.f65) kr kr kr kr (wU fun ok=>(aM fun e=>(aw (fun hp=>?_))));dsimp only[av]at hp;refine⟨nbl rfl,L0,ag _,?_⟩
 ·unfold ae Tryz.f65;try unfold A4
  try unfold ct
  exact zq1
@[go_sem] def bM (l_:List Int)(k_0:Nat)(s_0:Unit):Unit⊕Unit:=(bif(decide ((l_.getD (Int.toNat ((k_0:Int)+1)) (0:Int)) < (l_.getD (Int.toNat (i64.wrap (((k_0:Int)+1) - 1))) (0:Int))))then .inl ()else .inr ())
def g7 (l_:List Int)(k_0:Nat)(s_0:Unit):Prop:=(l_.length≤aU→((0≤((k_0:Int)+1)∧((k_0:Int)+1) < (l_.length:Int))∧(0≤(i64.wrap (((k_0:Int)+1) - 1))∧(i64.wrap (((k_0:Int)+1) - 1)) < (l_.length:Int))))
def ar (l_:List Int):Bool:=(match am (bM l_) (l_.length - 1) 0 ()with| .inl x_0_0=>false| .inr s_0=>true)
def rA (l_:List Int):Prop:=okI (bM l_) (g7 l_) (l_.length - 1) 0 ()
theorem wX (l_:List Int):rA l_:=iF _ _ _ fun j s h1 h2 hm=>by
 unfold aU at hm;rw[aP (by omega) (by omega)];omega
@[go_sem] def kg:List SV→Option Con:=(pR .int fun l_=>(pE (.det True (.v (.bool (ar l_))))))
theorem zq7 {p:Prop}(h:p:=by simp only[go_sem,Nat.reduceBEq,Nat.reduceLeDiff,Nat.reduceLT,decide_true,Nat.reduceAdd,Nat.reduceSub,Nat.reduceMul,Int.reduceLE,Int.reduceLT,Int.reduceToNat,Int.reduceNeg,reduceCtorEq,hb0]):p:=h
theorem zq8 {p:Prop}(h:p:=by simp only[go_sem,Nat.reduceBEq,Nat.reduceLeDiff,Nat.reduceLT,decide_true,Nat.reduceAdd,Nat.reduceSub,Nat.reduceMul,Int.reduceLE,Int.reduceLT,Int.reduceToNat,Int.reduceNeg,reduceCtorEq,bM,hc0,hw0];all_goals exact cl):p:=h
theorem zq9 {p:Prop}(h:p:=by simp only[go_sem,Nat.reduceBEq,Nat.reduceLeDiff,Nat.reduceLT,decide_true,Nat.reduceAdd,Nat.reduceSub,Nat.reduceMul,Int.reduceLE,Int.reduceLT,Int.reduceToNat,Int.reduceNeg,reduceCtorEq,hc0];all_goals exact cl2):p:=h
theorem l9:FnOk Tryz.prog 95 kg:=by
 have hG:ConsOk Tryz.prog (mkG [] []):=ap cg0 cg0;refine aL [.o] mixed aj hG (fn:=Tryz.f95) (c:=ae Tryz.f95) kr kr kr kr (cI fun l_=>(aw (fun hp=>?_)));dsimp only[av]at hp;have hp:=wX l_;unfold rA at hp;refine⟨nbl rfl,(fun id st=>bif Nat.beq id 0 then some (LC (ρ:=Unit) (σ:=Unit) (lk 0 st.t=.rs .int l_∧lk 3 st.t=.v (.int .i64 1)∧st.h=[]∧okI (bM l_) (g7 l_) (l_.length - 1) 0 ()) (am (bM l_) (l_.length - 1) 0 ()) (fun _=>.ret) (fun x_0_0=>⟨[(2,.v (.bool false))],[]⟩) (fun s_0=>⟨[],[]⟩))else none),?_,?_⟩
 ·unfold ae Tryz.f95;simp only[al,true_and,and_true]
  ·refine Jx mixed aj hG kr fun st lc hC hp=>?_;simp only[go_sem,Nat.reduceBEq,Option.some.injEq]at hC;subst hC;obtain⟨t,h⟩:=st;dsimp only[LC]at hp;obtain⟨e0_0,e0_1,rfl,hok0⟩:=hp;refine⟨_,_,_,(bM l_),(g7 l_),(l_.length - 1),(),_,_,_,(fun k_0 s_0=>⟨[(0,.rs .int l_),(3,.v (.int .i64 ((k_0:Int)+1)))],[]⟩),[],rfl,hok0,Nat.le_refl _,?_,fun k_0 s_0 hk0 hp0=>?_⟩
   ·simp only[go_sem,Nat.reduceBEq,Nat.reduceLeDiff,Nat.reduceLT,decide_true,Nat.reduceAdd,Nat.reduceSub,Nat.reduceMul,Int.reduceLE,Int.reduceLT,Int.reduceToNat,Int.reduceNeg,reduceCtorEq,e0_0,e0_1];all_goals (first|done|decide|(repeat' (first|refine And.intro ?_ ?_|rfl|decide)))
   refine⟨L0,?_,?_⟩
   ·simp only[al,and_self,true_and,and_true]
   ·by_cases hb0:l_.length≤aU
    rotate_left
    ·exact zq7
    ·by_cases hlt0:k_0< (l_.length - 1)
     ·have hw0:i64.wrap (((k_0:Nat):Int)+1+1)=((k_0+1:Nat):Int)+1:=by(have hbb:=hb0;have hll:=hlt0;try unfold aU at hbb);rw[aP (by omega) (by omega)];omega
      have hq0:=hp0 hlt0;unfold g7 at hq0
      replace hq0:=hq0 hb0
      try simp only[hw0,Int.toNat_natCast]at hq0
      have hc0:decide (((k_0:Int)+1) < (l_.length:Int))=true:=by simp only[decide_eq_true_eq];omega
      exact zq8
     ·have hc0:decide (((k_0:Int)+1) < (l_.length:Int))=false:=by simp only[decide_eq_false_iff_not];omega
      exact zq9
 ·unfold ae Tryz.f95;try unfold ar
  exact zq1
def bA (i:Int)(n:Int):Bool:=((decide (i≥0))&&(decide (i<n)))
@[go_sem] def ll:List SV→Option Con:=(pI fun i=>(pI fun n=>(pE (.det True (.v (.bool (bA i n)))))))
theorem nI:FnOk Tryz.prog 97 ll:=by
 have hG:ConsOk Tryz.prog (mkG [] []):=ap cg0 cg0;refine aL [.o] mixed aj hG (fn:=Tryz.f97) (c:=ae Tryz.f97) kr kr kr kr (aM fun i=>(aM fun n=>(aw (fun hp=>?_))));dsimp only[av]at hp;refine⟨nbl rfl,L0,ag _,?_⟩
 ·unfold ae Tryz.f97;try unfold bA
  exact zq1
def jw (x:Ratio×Ratio):Bool:=(((((l8 x.1 x.2).2==0)&&(decide (x.1.n≥0)))&&(decide ((l8 x.1 x.2).1≤0)))&&(decide (x.2.n≤x.2.d)))
@[go_sem] def sj:List SV→Option Con:=(pD .ratio2 fun x=>(pE (.det True (.v (.bool (jw x))))))
theorem x9:FnOk Tryz.prog 136 sj:=by
 have hG:ConsOk Tryz.prog (mkG [(163,xD)] []):=ap (cgc De cg0) cg0;refine aL [.o] mixed aj hG (fn:=Tryz.f136) (c:=ae Tryz.f136) kr kr kr kr (aI fun x=>(aw (fun hp=>?_)));dsimp only[av]at hp;refine⟨nbl rfl,L0,ag _,?_⟩
 ·unfold ae Tryz.f136;try unfold jw
  exact zq1
def gi (i:Int)(x:Reach):Bool:=(bif(decide (i > 0))then((((((bA x.up i)&&(ar ([1,x.delay,16])))&&(ar ([0,x.siphon,x.cap,1073741824])))&&(ar ([0,x.siphon,x.bank,1099511627776])))&&(ar ([0,x.evap.lo,x.evap.hi,1073741824])))&&(jw x.seep))else((((((x.up==(-1))&&(ar ([1,x.delay,16])))&&(ar ([0,x.siphon,x.cap,1073741824])))&&(ar ([0,x.siphon,x.bank,1099511627776])))&&(ar ([0,x.evap.lo,x.evap.hi,1073741824])))&&(jw x.seep)))
@[go_sem] def sm:List SV→Option Con:=(pI fun i=>(pD .reach fun x=>(pE (.det True (.v (.bool (gi i x)))))))
theorem ya:FnOk Tryz.prog 96 sm:=by
 have hG:ConsOk Tryz.prog (mkG [(95,fun l=>kg (cn [.sl .int] l)),(97,ll),(136,sj)] []):=ap (cgc (l9.norm [.sl .int]) (cgc nI (cgc x9 cg0))) cg0;refine aL [.o] mixed aj hG (fn:=Tryz.f96) (c:=ae Tryz.f96) kr kr kr kr (aM fun i=>(aI fun x=>(aw (fun hp=>?_))));dsimp only[av]at hp;refine⟨nbl rfl,L0,ag _,?_⟩
 ·unfold ae Tryz.f96;try unfold gi
  exact zq1
def ew (a0:District)(a1:Right):Bool:=(bif(((!(bA a1.farm (a0.farms.length:Int))) ||(!(bA a1.reach (a0.reaches.length:Int)))) ||(!(ar ([0,a1.since,a1.to,(i64.wrap (a0.hours - 1))]))))then false else(bif(a1.kind==1)then((((a1.reach==0)&&(ar ([0,a1.rank,1048576])))&&(ar ([1,a1.litres,1073741824])))&&(ar ([1,a1.length,a1.every,a0.hours])))else(bif(a1.kind==2)then((a1.name==a1.name)&&((a1.kind==a1.kind)&&((a1.farm==a1.farm)&&((a1.reach==a1.reach)&&((a1.rank==0)&&((a1.litres==0)&&((a1.since==0)&&((a1.to==(i64.wrap (a0.hours - 1)))&&((a1.every==0)&&(a1.length==0))))))))))else(bif(a1.kind==3)then((a1.name==a1.name)&&((a1.kind==a1.kind)&&((a1.farm==a1.farm)&&((a1.reach==a1.reach)&&((a1.rank==0)&&((a1.litres==0)&&((a1.since==a1.since)&&((a1.to==a1.to)&&((a1.every==0)&&(a1.length==0))))))))))else false))))
@[go_sem] def sn:List SV→Option Con:=(pD .district fun a0=>(pD .right fun a1=>(pE (.det True (.v (.bool (ew a0 a1)))))))
theorem yb:FnOk Tryz.prog 98 sn:=by
 have hG:ConsOk Tryz.prog (mkG [(95,fun l=>kg (cn [.sl .int] l)),(97,ll)] []):=ap (cgc (l9.norm [.sl .int]) (cgc nI cg0)) cg0;refine aL [.o] mixed aj hG (fn:=Tryz.f98) (c:=ae Tryz.f98) kr kr kr kr (aI fun a0=>(aI fun a1=>(aw (fun hp=>?_))));dsimp only[av]at hp;refine⟨nbl rfl,L0,ag _,?_⟩
 ·unfold ae Tryz.f98;try unfold ew
  exact zq1
@[go_sem] def cP (a0:District)(a1:Int)(k_0:Nat)(s_0:Unit):Unit⊕Unit:=(bif(ct (gi (k_0:Int) (a0.reaches.getD k_0 (default:Reach))) a1)then .inr ()else .inl ())
@[go_sem] def dq (a0:District)(a1:Int)(k_1:Nat)(s_1:Unit):Unit⊕Unit:=(bif(ct (ar ([0,(a0.crops.getD k_1 (default:Crop)).need,1048576])) a1)then .inr ()else .inl ())
@[go_sem] def cS (a0:District)(a1:Int)(k_2:Nat)(s_2:Unit):Unit⊕Unit:=(bif(decide ((a0.farms.getD k_2 (default:Farm)).area > 0))then(bif(ct (((bA ((a0.farms.getD k_2 (default:Farm)).crop) (a0.crops.length:Int))&&(bA ((a0.farms.getD k_2 (default:Farm)).reach) (a0.reaches.length:Int)))&&(ar ([0,(a0.farms.getD k_2 (default:Farm)).area,1048576]))) a1)then .inr ()else .inl ())else(bif(ct ((((a0.farms.getD k_2 (default:Farm)).crop==(-1))&&(bA ((a0.farms.getD k_2 (default:Farm)).reach) (a0.reaches.length:Int)))&&(ar ([0,(a0.farms.getD k_2 (default:Farm)).area,1048576]))) a1)then .inr ()else .inl ()))
@[go_sem] def cT (a0:District)(a1:Int)(k_3:Nat)(s_3:Unit):Unit⊕Unit:=(bif(ct (ew a0 (a0.rights.getD k_3 (default:Right))) a1)then .inr ()else .inl ())
@[go_sem] def dO (a0:District)(a1:Int)(k_4:Nat)(s_4:Unit):Unit⊕Unit:=(bif(ct (((bA ((a0.duties.getD k_4 (default:Duty)).farm) (a0.farms.length:Int))&&(bA ((a0.duties.getD k_4 (default:Duty)).reach) (a0.reaches.length:Int)))&&(ar ([0,(a0.duties.getD k_4 (default:Duty)).due,a0.hours]))) a1)then .inr ()else .inl ())
def zS (a0:District)(a1:Int):Unit:=(bif(ct (((ar ([1,a0.hours,4096]))&&(ar ([0,a0.tank.start,a0.tank.cap,1099511627776])))&&(decide ((a0.reaches.length:Int) > 0))) a1)then(match am (cP a0 a1) a0.reaches.length 0 ()with| .inl x_0_0=>default| .inr s_0=>(match am (dq a0 a1) a0.crops.length 0 ()with| .inl x_1_0=>default| .inr s_1=>(match am (cS a0 a1) a0.farms.length 0 ()with| .inl x_2_0=>default| .inr s_2=>(match am (cT a0 a1) a0.rights.length 0 ()with| .inl x_3_0=>default| .inr s_3=>(match am (dO a0 a1) a0.duties.length 0 ()with| .inl x_4_0=>default| .inr s_4=>())))))else default)
def du (a0:District)(a1:Int):Bool:=(bif(ct (((ar ([1,a0.hours,4096]))&&(ar ([0,a0.tank.start,a0.tank.cap,1099511627776])))&&(decide ((a0.reaches.length:Int) > 0))) a1)then(match am (cP a0 a1) a0.reaches.length 0 ()with| .inl x_0_0=>false| .inr s_0=>(match am (dq a0 a1) a0.crops.length 0 ()with| .inl x_1_0=>false| .inr s_1=>(match am (cS a0 a1) a0.farms.length 0 ()with| .inl x_2_0=>false| .inr s_2=>(match am (cT a0 a1) a0.rights.length 0 ()with| .inl x_3_0=>false| .inr s_3=>(match am (dO a0 a1) a0.duties.length 0 ()with| .inl x_4_0=>false| .inr s_4=>true)))))else false)
@[go_sem] def ql:List SV→Option Con:=(pD .district fun a0=>(pI fun a1=>(pE (.may (du a0 a1) (.tup []) (.iface 170 (.int .i64 a1))))))
theorem vN:FnOk Tryz.prog 66 ql:=by
 have hG:ConsOk Tryz.prog (mkG [(65,nH),(95,fun l=>kg (cn [.sl .int] l)),(96,sm),(97,ll),(98,fun l=>sn (cn [.st .district,.st .right] l))] []):=ap (cgc qk (cgc (l9.norm [.sl .int]) (cgc ya (cgc nI (cgc (yb.norm [.st .district,.st .right]) cg0))))) cg0;refine aL [] mixed aj hG (fn:=Tryz.f66) (c:=ae Tryz.f66) kr kr kr kr (aI fun a0=>(aM fun a1=>(aw (fun hp=>?_))));dsimp only[av]at hp;refine⟨nbl rfl,(fun id st=>bif Nat.beq id 0 then some (LCR (ρ:=Unit) (σ:=Unit) 1 [] [0] (fun k_0 s_0=>⟨[(1,.v (.int .i64 a1)),(2,.ptr 0 0),(38,.rs .reach a0.reaches),(39,.v (.int .i64 (a0.reaches.length:Int))),(40,.v (.int .i64 (k_0:Int)))],[.cells (cellsOf .district a0)]⟩) (cP a0 a1) pT a0.reaches.length () (a0.reaches.length≤aU) (fun _=>.pan (.iface 170 (.int .i64 a1))) (fun x_0_0=>⟨[],[.dead]⟩) st)else bif Nat.beq id 2 then some (LCR (ρ:=Unit) (σ:=Unit) 1 [] [0] (fun k_1 s_1=>⟨[(1,.v (.int .i64 a1)),(2,.ptr 0 0),(52,.rs .crop a0.crops),(53,.v (.int .i64 (a0.crops.length:Int))),(54,.v (.int .i64 (k_1:Int)))],[.cells (cellsOf .district a0)]⟩) (dq a0 a1) pT a0.crops.length () (a0.crops.length≤aU) (fun _=>.pan (.iface 170 (.int .i64 a1))) (fun x_1_0=>⟨[],[.dead]⟩) st)else bif Nat.beq id 4 then some (LCR (ρ:=Unit) (σ:=Unit) 1 [] [0] (fun k_2 s_2=>⟨[(1,.v (.int .i64 a1)),(2,.ptr 0 0),(66,.rs .farm a0.farms),(67,.v (.int .i64 (a0.farms.length:Int))),(68,.v (.int .i64 (k_2:Int)))],[.cells (cellsOf .district a0)]⟩) (cS a0 a1) pT a0.farms.length () (a0.farms.length≤aU) (fun _=>.pan (.iface 170 (.int .i64 a1))) (fun x_2_0=>⟨[],[.dead]⟩) st)else bif Nat.beq id 6 then some (LCR (ρ:=Unit) (σ:=Unit) 1 [] [0] (fun k_3 s_3=>⟨[(1,.v (.int .i64 a1)),(2,.ptr 0 0),(103,.rs .right a0.rights),(104,.v (.int .i64 (a0.rights.length:Int))),(105,.v (.int .i64 (k_3:Int)))],[.cells (cellsOf .district a0)]⟩) (cT a0 a1) pT a0.rights.length () (a0.rights.length≤aU) (fun _=>.pan (.iface 170 (.int .i64 a1))) (fun x_3_0=>⟨[],[.dead]⟩) st)else bif Nat.beq id 8 then some (LCR (ρ:=Unit) (σ:=Unit) 1 [] [0] (fun k_4 s_4=>⟨[(1,.v (.int .i64 a1)),(2,.ptr 0 0),(116,.rs .duty a0.duties),(117,.v (.int .i64 (a0.duties.length:Int))),(118,.v (.int .i64 (k_4:Int)))],[.cells (cellsOf .district a0)]⟩) (dO a0 a1) pT a0.duties.length () (a0.duties.length≤aU) (fun _=>.pan (.iface 170 (.int .i64 a1))) (fun x_4_0=>⟨[],[.dead]⟩) st)else none),?_,?_⟩
 ·unfold ae Tryz.f66;simp only[al,true_and,and_true];refine⟨?_,?_,?_,?_,?_⟩
  ·refine dp mixed aj hG kr (fun _=>rfl) (a0.reaches.length:Int) rfl fK (fun hb0 k_0 s_0 hlt0 _ hw hc=>⟨L0,ag _,?_⟩) (fun hb0 s_0 hc=>?_)
   ·exact bF (jl [0])
   ·exact bG (jl [0])
  ·refine dp mixed aj hG kr (fun _=>rfl) (a0.crops.length:Int) rfl fK (fun hb1 k_1 s_1 hlt1 _ hw hc=>⟨L0,ag _,?_⟩) (fun hb1 s_1 hc=>?_)
   ·exact bF (jl [0])
   ·exact bG (jl [0])
  ·refine dp mixed aj hG kr (fun _=>rfl) (a0.farms.length:Int) rfl fK (fun hb2 k_2 s_2 hlt2 _ hw hc=>⟨L0,ag _,?_⟩) (fun hb2 s_2 hc=>?_)
   ·exact bF (jl [0])
   ·exact bG (jl [0])
  ·refine dp mixed aj hG kr (fun _=>rfl) (a0.rights.length:Int) rfl fK (fun hb3 k_3 s_3 hlt3 _ hw hc=>⟨L0,ag _,?_⟩) (fun hb3 s_3 hc=>?_)
   ·exact bF (jl [0])
   ·exact bG (jl [0])
  ·refine dp mixed aj hG kr (fun _=>rfl) (a0.duties.length:Int) rfl fK (fun hb4 k_4 s_4 hlt4 _ hw hc=>⟨L0,ag _,?_⟩) (fun hb4 s_4 hc=>?_)
   ·exact bF (jl [0])
   ·exact bG (jl [0])
 ·unfold ae Tryz.f66;try unfold zS
  try unfold du
  exact zq1
def ay (d:District):Int:=(bif(ct (((((decide ((d.reaches.length:Int)≤64))&&(decide ((d.farms.length:Int)≤600)))&&(decide ((d.crops.length:Int)≤32)))&&(decide ((d.rights.length:Int)≤256)))&&(decide ((d.duties.length:Int)≤256))) 2)then(bif(du d 191)then 0 else 191)else 2)
@[go_sem] def lm:List SV→Option Con:=(pD .district fun d=>(pE (.det True (.v (.int .i64 (ay d))))))
theorem zq16 {p:Prop}(h:p:=by simp only[go_sem,Nat.reduceBEq,Nat.reduceLeDiff,Nat.reduceLT,decide_true,Nat.reduceAdd,Nat.reduceSub,Nat.reduceMul,Int.reduceLE,Int.reduceLT,Int.reduceToNat,Int.reduceNeg,reduceCtorEq,Jz,GY,RR];all_goals exact cl):p:=h
theorem nJ:FnOk Tryz.prog 34 lm:=by
 have hG:ConsOk Tryz.prog (mkG [(65,nH),(66,fun l=>ql (cn [.st .district,.o] l))] []):=ap (cgc qk (cgc (vN.norm [.st .district,.o]) cg0)) cg0;refine RN LK [.o] mixed aj hG (fn:=Tryz.f34) (c0:=Jz (ae Tryz.f34)) (c1:=GY (GY (ae Tryz.f34))) (i1:=regI (Jz (GY (ae Tryz.f34)))) (o1:=V3 0 (Jz (GY (ae Tryz.f34)))) (o2:=V3 1 (Jz (GY (ae Tryz.f34)))) (t3:=3) (q:=2) (tys:= #[]) kr kr kr (by refine⟨?_,?_,?_⟩ <;>kernel_rfl) (by refine⟨?_,?_,?_⟩ <;>kernel_rfl) (nbl rfl) kr kr (aI fun d=>(aw (fun hp=>?_)));dsimp only[av]at hp;refine⟨nbl rfl,L0,L0,1,?_,?_,?_⟩
 ·unfold ae Tryz.f34;simp only[Jz,al,and_self,true_and,and_true]
 ·unfold ae Tryz.f34;simp only[GY];simp only[al,and_self,true_and,and_true]
 ·unfold ae Tryz.f34;try unfold ay
  exact zq16
end Go.Sx
end
section
namespace Go.Sx
open Go.RowKit
def orC {α:Type 1}:Option α→Option α→Option α
 |some x,_=>some x
 |none,y=>y
@[go_sem] theorem Wl {α:Type 1}{x:α}{y:Option α}:orC (some x) y=some x:=(rfl)
@[go_sem] theorem Wm {α:Type 1}{y:Option α}:orC none y=y:=(rfl)
theorem tl {α:Type 1}{a b:Option α}{c:α}(h:orC a b=some c):a=some c∨b=some c:=by
 cases a with
 |none=>exact .inr h
 |some x=>exact .inl h
theorem FnOkO.or {P:Program}{f:FuncId}{C D:List SV→List Ob→Option HCon}(h1:FnOkO P f C)(h2:FnOkO P f D):FnOkO P f (fun l h=>orC (C l h) (D l h)):=
 ⟨fun l h c hc=>by rcases tl hc with e|e;exact h1.enter l h c e;exact h2.enter l h c e,
  fun l h c hc=>by rcases tl hc with e|e;exact h1.calls l h c e;exact h2.calls l h c e⟩
theorem FnOk.or {P:Program}{f:FuncId}{C D:List SV→Option Con}(h1:FnOk P f C)(h2:FnOk P f D):FnOk P f (fun l=>orC (C l) (D l)):=
 ⟨fun l c hc=>by rcases tl hc with e|e;exact h1.enter l c e;exact h2.enter l c e,
  fun l c hc=>by rcases tl hc with e|e;exact h1.calls l c e;exact h2.calls l c e⟩
def JB (k:Tag)(i:Nat)(t:List (Nat×SV))(h:List Ob):SV→St
 | .v (.slice none 0 0) =>⟨(i,.os h.length)::t,h++[.row k []]⟩
 |_=>⟨t,h⟩
def LV (k:Tag)(id off:Nat)(t:List (Nat×SV))(h:List Ob)(l:List SV):Option SV→St
 |some (.v (.slice none 0 0)) =>⟨t,bI h id (.cells (l.set off (.os h.length)))++[.row k []]⟩
 |_=>⟨t,h⟩
def OQ (k:Tag)(id off:Nat)(t:List (Nat×SV))(h:List Ob):Ob→St
 | .cells l=>LV k id off t h l (nth l off)
 |_=>⟨t,h⟩
def LW (k:Tag)(t:List (Nat×SV))(h:List Ob):SV→St
 | .ptr id off=>OQ k id off t h (ai h id)
 |_=>⟨t,h⟩
def EO (k:Tag):ResultVar→List (Nat×SV)→List Ob→St
 | .tmp i,t,h=>JB k i t h (lk i t)
 | .cell i _,t,h=>LW k t h (lk i t)
def zT:List (ResultVar×Tag)→St→St
 | [],st=>st
 |x::r,st=>zT r (EO x.2 x.1 st.t st.h)
theorem OS (k:Tag)(r:ResultVar)(st:St):NilS st (EO k r st.t st.h):=by
 obtain⟨t,h⟩:=st;cases r with
 |tmp i=>
  show NilS _ (JB k i t h (lk i t));unfold JB;split
  ·rename_i e;exact .slot _ (.refl _) e (.inl ⟨_,rfl⟩)
  ·exact .refl _
 |cell i _=>
  show NilS _ (LW k t h (lk i t));unfold LW;split
  ·unfold OQ;split
   ·rename_i e;unfold LV;split
    ·rename_i e2;exact .cell _ (.refl _) e (by rw[←et];exact e2) (.inl ⟨_,rfl⟩)
    ·exact .refl _
   ·exact .refl _
  ·exact .refl _
theorem NilS.trans {a b c:St}(h1:NilS a b)(h2:NilS b c):NilS a c:=by
 induction h2 with
 |refl=>exact h1
 |cell o _ e1 e2 ho ih=>exact .cell o ih e1 e2 ho
 |slot o _ e1 ho ih=>exact .slot o ih e1 ho
 |slotE k _ e1 ih=>exact .slotE k ih e1
theorem R5 (l:List (ResultVar×Tag)):∀ st,NilS st (zT l st):=by
 induction l with
 |nil=>exact fun st=>.refl _
 |cons x r ih=>exact fun st=>(OS x.2 x.1 st).trans (ih _)
def Ip (l:List (ResultVar×Tag))(rs:List ResultVar)(ts:Tis)(post:SV→Prop)(pp:Value→Prop):Ex→St→Prop
 | .exit _,_=>False
 | .normal,st=>dL post (uG true rs ts (zT l st))
 | .ret,st=>dL post (uG true rs ts (zT l st))
 | .pan x,_=>pp x
section
variable {l:List (ResultVar×Tag)}{rs:List ResultVar}{ts:Tis}{post:SV→Prop}{pp:Value→Prop}{st:St}{k:Tag}{i id off:Nat}{t:List (Nat×SV)}{h:List Ob}{m:List SV}
@[go_sem] theorem Uu:Ip l rs ts post pp .ret st=dL post (uG true rs ts (zT l st)):=(rfl)
@[go_sem] theorem OT:Ip l rs ts post pp .normal st=dL post (uG true rs ts (zT l st)):=(rfl)
@[go_sem] theorem Uv {x:Value}:Ip l rs ts post pp (.pan x) st=pp x:=(rfl)
@[go_sem] theorem Wn:zT [] st=st:=(rfl)
@[go_sem] theorem Uw {r:ResultVar}:zT ((r,k)::l) ⟨t,h⟩=zT l (EO k r t h):=(rfl)
@[go_sem] theorem Ux:EO k (.tmp i) t h=JB k i t h (lk i t):=(rfl)
@[go_sem] theorem R6 {ty:TypeId}:EO k (.cell i ty) t h=LW k t h (lk i t):=(rfl)
@[go_sem] theorem Wo:JB k i t h (.v (.slice none 0 0))=⟨(i,.os h.length)::t,h++[.row k []]⟩:=(rfl)
@[go_sem] theorem X_:JB k i t h (.os id)=⟨t,h⟩:=(rfl)
@[go_sem] theorem Wp:LW k t h (.ptr id off)=OQ k id off t h (ai h id):=(rfl)
@[go_sem] theorem R7:OQ k id off t h (.cells m)=LV k id off t h m (nth m off):=(rfl)
@[go_sem] theorem Wq:LV k id off t h m (some (.v (.slice none 0 0)))=⟨t,bI h id (.cells (m.set off (.os h.length)))++[.row k []]⟩:=(rfl)
@[go_sem] theorem Ya:LV k id off t h m (some (.os i))=⟨t,h⟩:=(rfl)
attribute [go_sem] List.set_cons_zero
end
section
variable {P:Program}{ts:Tis}{G:Cons}
theorem iT (l:List (ResultVar×Tag)) (hm:P.follows .mixedOrders=true) (hts:ts.ok P) (hG:ConsOk P G) {f:FuncId} {fn:Func} {c:Code} (hf:P.funcs[f]? =some fn) (hb:fn.body=some c) (hname:(fn.name== "runtime.NumGoroutine")=false)
  (hc:cq fn.ntmps c=true) {C:List SV→Option Con}
  (h:∀ l0 con,C l0=some con→av con→l0.length≤fn.ntmps∧∃ L,al P none fn.ntmps L c∧exec ts G L c ⟨kY 0 l0,[]⟩ (Ip l fn.results.toList ts (dm con) (kv con))):FnOk P f C:=by
 refine⟨fun l con _ args w=>?_,fun l0 con hcon hpre F w vs hF hvs=>?_⟩
 ·have hn:¬fn.name= "runtime.NumGoroutine":=by simpa using hname
  simp[callFunc,hf,hn,hb]
 ·obtain⟨hlen,L,hl,hx⟩:=h l0 con hcon hpre;refine oJ (n:=0) (callsIn_of_wp_marks hf hb trivial ?_);have hr:StRel F { w:=w,own:=cw} fn.ntmps cw ⟨kY 0 l0,[]⟩ { tmps:=vs++Array.replicate (fn.ntmps - vs.size) undef,defers:=[]} w:=
   ⟨by have:=hvs.1;simp;omega,Dfr.nil,vJ hF,Fr.refl _,fun t=>na hvs _ t⟩
  refine wpIn_mono (oc hm hts hG c hc hl F _ _ hx cw _ w hr) ?_;intro e a' w' hq;have key:∀ F1 own st,(∀ b,F b→F1 b)→StRel F1 { w:=w,own:=cw} fn.ntmps own st a' w'→dL (dm con) (uG true fn.results.toList ts (zT l st))→LeavesInM (rd none) 0 P fn a'.tmps
    (fun e w'=>(∃ s u own',dm con s∧e=.returned u∧Handed F w own' w' s u∧Below w.heap.size w w')∨(∃ x,kv con x∧e=.panicked [{ v:=x,recovered:=false}]∧Below w.heap.size w w')) a'.defers .returning w':=by
   intro F1 own0' st0 hF1 hst0 hdone;obtain⟨own,hst⟩:=(R5 l st0).rel hst0;generalize zT l st0=st at hst hdone;refine jR hst (by simp) fun w2 hst2=>?_;have hst3:=hst2.less hF1 rfl;unfold uG at hdone;cases hs:n9 (lX ts st fn.results.toList)with
   |none=>
    simp only[cond_true,IZ]at hdone;rw[hs]at hdone;exact hdone.elim
   |some s=>
    obtain⟨u,e1,e2⟩:=vI (P:=P) hts hst3 hs;refine⟨u,e1,.inl ?_⟩;simp only[cond_true,IZ]at hdone;rw[hs]at hdone;change dL (dm con) (xv st.h s)at hdone;cases hg:xv st.h s with
    |none=>rw[hg]at hdone;exact hdone.elim
    |some s2=>
     rw[hg]at hdone;obtain⟨own',hh⟩:=H1 hst3 e2 hg;exact⟨_,u,own',hdone,rfl,hh,mZ hst3.fr⟩
  cases e with
  |normal=>obtain⟨F1,own,st,h0,h1,h2⟩:=hq;exact key F1 own st h0 h1 h2
  |ret=>obtain⟨F1,own,st,h0,h1,h2⟩:=hq;exact key F1 own st h0 h1 h2
  |exit id=>obtain⟨F1,own,st,h0,h1,h2⟩:=hq;exact h2.elim
  |panic ch=>
   obtain⟨x,F1,own,st,h0,h1,h2,rfl⟩:=hq;exact jR h1 (by simp) fun w2 hst2=>.inr ⟨x,h2,rfl,mZ hst2.fr⟩
  |_=>exact hq.elim
end
end Go.Sx
end
section
namespace Go.Sx
open Go.Proofs
open IntKind (i64)
@[go_sem] def rB (l_:List Int)(k_0:Nat)(s_0:Unit):Int⊕Unit:=(bif((l_.getD k_0 (0:Int)) !=0)then .inl (l_.getD k_0 (0:Int))else .inr ())
def fC (l_:List Int):Int:=(match am (rB l_) l_.length 0 ()with| .inl x_0_0=>x_0_0| .inr s_0=>0)
@[go_sem] def so:List SV→Option Con:=(pR .int fun l_=>(pE (.det True (.v (.int .i64 (fC l_))))))
theorem yc:FnOk Tryz.prog 67 so:=by
 have hG:ConsOk Tryz.prog (mkG [] []):=ap cg0 cg0;refine aL [.o] mixed aj hG (fn:=Tryz.f67) (c:=ae Tryz.f67) kr kr kr kr (cI fun l_=>(aw (fun hp=>?_)));dsimp only[av]at hp;refine⟨nbl rfl,(fun id st=>bif Nat.beq id 0 then some (LCR (ρ:=Int) (σ:=Unit) 0 [] [] (fun k_0 s_0=>⟨[(5,.rs .int l_),(6,.v (.int .i64 (l_.length:Int))),(7,.v (.int .i64 (k_0:Int)))],[]⟩) (rB l_) pT l_.length () (l_.length≤aU) (fun _=>.ret) (fun x_0_0=>⟨[(2,.v (.int .i64 x_0_0))],[]⟩) st)else none),?_,?_⟩
 ·unfold ae Tryz.f67;simp only[al,true_and,and_true]
  ·refine dp mixed aj hG kr (fun _=>rfl) (l_.length:Int) rfl fK (fun hb0 k_0 s_0 hlt0 _ hw hc=>⟨L0,ag _,?_⟩) (fun hb0 s_0 hc=>?_)
   ·exact bF (jl [])
   ·exact bG (jl [])
 ·unfold ae Tryz.f67;try unfold fC
  exact zq1
def cm (a:Claim)(b:Claim):Int:=(fC ([(cd a.hour b.hour),(cd a.rank b.rank),(cd a.right b.right),(cd a.farm b.farm)]))
@[go_sem] def oO:List SV→Option Con:=(pD .claim fun a=>(pD .claim fun b=>(pE (.det True (.v (.int .i64 (cm a b)))))))
theorem rC:FnOk Tryz.prog 35 oO:=by
 have hG:ConsOk Tryz.prog (mkG [(45,gh),(67,fun l=>so (cn [.sl .int] l))] []):=ap (cgc g6 (cgc (yc.norm [.sl .int]) cg0)) cg0;refine aL [.o] mixed aj hG (fn:=Tryz.f35) (c:=ae Tryz.f35) kr kr kr kr (aI fun a=>(aI fun b=>(aw (fun hp=>?_))));dsimp only[av]at hp;refine⟨nbl rfl,L0,ag _,?_⟩
 ·unfold ae Tryz.f35;try unfold cm
  exact zq1
@[go_sem] def nK (a0:District)(a1:List Claim)(k_0:Nat)(s_0:Unit):Unit⊕Unit:=(bif((((!((((((((decide ((a1.getD k_0 (default:Claim)).right≥0))&&(decide ((a1.getD k_0 (default:Claim)).right< (a0.rights.length:Int))))&&(decide ((a1.getD k_0 (default:Claim)).farm≥0)))&&(decide ((a1.getD k_0 (default:Claim)).farm< (a0.farms.length:Int))))&&(decide ((a1.getD k_0 (default:Claim)).hour≥0)))&&(decide ((a1.getD k_0 (default:Claim)).hour<a0.hours)))&&(decide ((a1.getD k_0 (default:Claim)).litres≥1)))&&(decide ((a1.getD k_0 (default:Claim)).litres≤1073741824)))) ||((a0.rights.getD (Int.toNat ((a1.getD k_0 (default:Claim)).right)) (default:Right)).kind !=1)) ||((a0.rights.getD (Int.toNat ((a1.getD k_0 (default:Claim)).right)) (default:Right)).rank !=(a1.getD k_0 (default:Claim)).rank)) ||((decide ((k_0:Int) > 0))&&(decide ((cm (a1.getD (Int.toNat (i64.wrap ((k_0:Int) - 1))) (default:Claim)) (a1.getD k_0 (default:Claim)))≥0))))then .inl ()else .inr ())
def iG (a0:District)(a1:List Claim)(k_0:Nat)(s_0:Unit):Prop:=(((!((((((((decide ((a1.getD k_0 (default:Claim)).right≥0))&&(decide ((a1.getD k_0 (default:Claim)).right< (a0.rights.length:Int))))&&(decide ((a1.getD k_0 (default:Claim)).farm≥0)))&&(decide ((a1.getD k_0 (default:Claim)).farm< (a0.farms.length:Int))))&&(decide ((a1.getD k_0 (default:Claim)).hour≥0)))&&(decide ((a1.getD k_0 (default:Claim)).hour<a0.hours)))&&(decide ((a1.getD k_0 (default:Claim)).litres≥1)))&&(decide ((a1.getD k_0 (default:Claim)).litres≤1073741824))))=false→(0≤(a1.getD k_0 (default:Claim)).right∧(a1.getD k_0 (default:Claim)).right< (a0.rights.length:Int)))∧((((!((((((((decide ((a1.getD k_0 (default:Claim)).right≥0))&&(decide ((a1.getD k_0 (default:Claim)).right< (a0.rights.length:Int))))&&(decide ((a1.getD k_0 (default:Claim)).farm≥0)))&&(decide ((a1.getD k_0 (default:Claim)).farm< (a0.farms.length:Int))))&&(decide ((a1.getD k_0 (default:Claim)).hour≥0)))&&(decide ((a1.getD k_0 (default:Claim)).hour<a0.hours)))&&(decide ((a1.getD k_0 (default:Claim)).litres≥1)))&&(decide ((a1.getD k_0 (default:Claim)).litres≤1073741824)))) ||((a0.rights.getD (Int.toNat ((a1.getD k_0 (default:Claim)).right)) (default:Right)).kind !=1))=false→(0≤(a1.getD k_0 (default:Claim)).right∧(a1.getD k_0 (default:Claim)).right< (a0.rights.length:Int)))∧((((!((((((((decide ((a1.getD k_0 (default:Claim)).right≥0))&&(decide ((a1.getD k_0 (default:Claim)).right< (a0.rights.length:Int))))&&(decide ((a1.getD k_0 (default:Claim)).farm≥0)))&&(decide ((a1.getD k_0 (default:Claim)).farm< (a0.farms.length:Int))))&&(decide ((a1.getD k_0 (default:Claim)).hour≥0)))&&(decide ((a1.getD k_0 (default:Claim)).hour<a0.hours)))&&(decide ((a1.getD k_0 (default:Claim)).litres≥1)))&&(decide ((a1.getD k_0 (default:Claim)).litres≤1073741824)))) ||((a0.rights.getD (Int.toNat ((a1.getD k_0 (default:Claim)).right)) (default:Right)).kind !=1)) ||((a0.rights.getD (Int.toNat ((a1.getD k_0 (default:Claim)).right)) (default:Right)).rank !=(a1.getD k_0 (default:Claim)).rank))=false→((decide ((k_0:Int) > 0))=true→(0≤(i64.wrap ((k_0:Int) - 1))∧(i64.wrap ((k_0:Int) - 1)) < (a1.length:Int))))))
def ln (a0:District)(a1:List Claim):Int:=(bif((ay a0) !=0)then(ay a0)else(bif(decide ((a1.length:Int) > 4096))then 2 else(match am (nK a0 a1) a1.length 0 ()with| .inl x_0_0=>260| .inr s_0=>0)))
def gJ (a0:District)(a1:List Claim):Prop:=(((ay a0) !=0)=false→(a1.length≤aU→((decide ((a1.length:Int) > 4096))=false→(a1.length≤aU→okI (nK a0 a1) (iG a0 a1) a1.length 0 ()))))
@[go_sem] def sp:List SV→Option Con:=(pD .district fun a0=>(pR .claim fun a1=>(pE (.det (gJ a0 a1) (.v (.int .i64 (ln a0 a1)))))))
theorem yd:FnOk Tryz.prog 19 sp:=by
 have hG:ConsOk Tryz.prog (mkG [(34,fun l=>lm (cn [.st .district] l)),(35,oO)] []):=ap (cgc (nJ.norm [.st .district]) (cgc rC cg0)) cg0;refine aL [.o] mixed aj hG (fn:=Tryz.f19) (c:=ae Tryz.f19) kr kr kr kr (aI fun a0=>(cI fun a1=>(aw (fun hp=>?_))));dsimp only[av]at hp;unfold gJ at hp;refine⟨nbl rfl,(fun id st=>bif Nat.beq id 0 then some (LCR (ρ:=Unit) (σ:=Unit) 1 [] [0] (fun k_0 s_0=>⟨[(1,.rs .claim a1),(2,.ptr 0 0),(16,.rs .claim a1),(17,.v (.int .i64 (a1.length:Int))),(18,.v (.int .i64 (k_0:Int)))],[.cells (cellsOf .district a0)]⟩) (nK a0 a1) (iG a0 a1) a1.length () (a1.length≤aU) (fun _=>.ret) (fun x_0_0=>⟨[(4,.v (.int .i64 260))],[.dead]⟩) st)else none),?_,?_⟩
 ·unfold ae Tryz.f19;simp only[al,true_and,and_true]
  ·refine dp mixed aj hG kr (fun _=>rfl) (a1.length:Int) rfl fK (fun hb0 k_0 s_0 hlt0 hq0 hw hc=>⟨L0,ag _,?_⟩) (fun hb0 s_0 hc=>?_)
   ·unfold iG at hq0;try simp only[hw,Int.toNat_natCast]at hq0
    exact bF (jl [0])
   ·exact bG (jl [0])
 ·unfold ae Tryz.f19;try unfold ln
  exact zq1
@[go_sem] def ig (a0:District)(a1:Int)(k_0:Nat)(s_0:List (ClaimsUse×Bool)×List (Int×Int)×List (ClaimsUse×Bool)):Empty⊕(List (ClaimsUse×Bool)×List (Int×Int)×List (ClaimsUse×Bool)):=(bif((decide (a1< (a0.rights.getD k_0 (default:Right)).since)) ||(decide (a1 > (a0.rights.getD k_0 (default:Right)).to)))then .inr (s_0.1,s_0.2.1,s_0.2.2)else(bif((a0.rights.getD k_0 (default:Right)).kind==3)then .inr ((fS .claimsUse .bool s_0.1 ({ farm:=(a0.rights.getD k_0 (default:Right)).farm,reach:=(a0.rights.getD k_0 (default:Right)).reach}:ClaimsUse) true),s_0.2.1,s_0.2.2)else(bif(((a0.rights.getD k_0 (default:Right)).kind==2)&&(!(b9 .claimsUse .bool s_0.2.2 ({ farm:=(a0.rights.getD k_0 (default:Right)).farm,reach:=(a0.rights.getD k_0 (default:Right)).reach}:ClaimsUse))))then .inr (s_0.1,(fS .int .int s_0.2.1 ((a0.rights.getD k_0 (default:Right)).reach) (i64.wrap ((b9 .int .int s_0.2.1 ((a0.rights.getD k_0 (default:Right)).reach))+1))),(fS .claimsUse .bool s_0.2.2 ({ farm:=(a0.rights.getD k_0 (default:Right)).farm,reach:=(a0.rights.getD k_0 (default:Right)).reach}:ClaimsUse) true))else .inr (s_0.1,s_0.2.1,s_0.2.2))))
def be (a0:District)(a1:Int):ClaimsLaw:=(match am (ig a0 a1) a0.rights.length 0 ([],[],[])with| .inl x=>x.elim| .inr s_0=>({ owners:=s_0.2.1,owned:=s_0.2.2,eased:=s_0.1}:ClaimsLaw))
@[go_sem] def sq:List SV→Option Con:=(pD .district fun a0=>(pI fun a1=>(pE (.det True (.agg [.nm .int .int ((be a0 a1).owners),.nm .claimsUse .bool ((be a0 a1).owned),.nm .claimsUse .bool ((be a0 a1).eased)])))))
theorem ye:FnOk Tryz.prog 50 sq:=by
 have hG:ConsOk Tryz.prog (mkG [] []):=ap cg0 cg0;refine K8 true mixed aj hG (fn:=Tryz.f50) (c:=ae Tryz.f50) kr kr kr kr (aI fun a0=>(aM fun a1=>(aw (fun hp=>?_))));dsimp only[av]at hp;refine⟨nbl rfl,(fun id st=>bif Nat.beq id 0 then some (LCR (ρ:=Empty) (σ:=(List (ClaimsUse×Bool)×List (Int×Int)×List (ClaimsUse×Bool))) 6 [] [0,1,2,3,4,5] (fun k_0 s_0=>⟨[(1,.v (.int .i64 a1)),(4,.ptr 1 0),(5,.ptr 5 0),(14,.rs .right a0.rights),(15,.v (.int .i64 (a0.rights.length:Int))),(16,.v (.int .i64 (k_0:Int)))],[.dead,.cells [.v (.map none),.v (.map none),.v (.map none)],.mp .int .int s_0.2.1 none,.mp .claimsUse .bool s_0.2.2 none,.mp .claimsUse .bool s_0.1 none,.cells [.os 2,.os 3,.os 4]]⟩) (ig a0 a1) pT a0.rights.length ([],[],[]) (a0.rights.length≤aU) ((·.elim)) ((·.elim)) st)else none),?_,?_⟩
 ·unfold ae Tryz.f50;simp only[al,true_and,and_true]
  ·refine dp mixed aj hG kr (fun _=>rfl) (a0.rights.length:Int) rfl fK (fun hb0 k_0 s_0 hlt0 _ hw hc=>⟨L0,ag _,?_⟩) (fun hb0 s_0 hc=>?_)
   ·exact bF (jl [0,1,2,3,4,5])
   ·exact bG (jl [0,1,2,3,4,5])
 ·unfold ae Tryz.f50;try unfold be
  exact zq1
def iU (x:ClaimsLaw)(u:ClaimsUse):Bool:=(bif(b9 .claimsUse .bool x.owned u)then(((i64.wrap ((b9 .int .int x.owners u.reach) - 1)) ==0) ||(b9 .claimsUse .bool x.eased u))else(((b9 .int .int x.owners u.reach) ==0) ||(b9 .claimsUse .bool x.eased u)))
@[go_sem] def qm:List SV→Option Con:=(pD .claimsLaw fun x=>(pD .claimsUse fun u=>(pE (.det True (.v (.bool (iU x u)))))))
theorem vO:FnOk Tryz.prog 54 qm:=by
 have hG:ConsOk Tryz.prog (mkG [] []):=ap cg0 cg0;refine aL [.o] mixed aj hG (fn:=Tryz.f54) (c:=ae Tryz.f54) kr kr kr kr (aI fun x=>(aI fun u=>(aw (fun hp=>?_))));dsimp only[av]at hp;refine⟨nbl rfl,L0,ag _,?_⟩
 ·unfold ae Tryz.f54;try unfold iU
  exact zq1
def od (r:Int)(x_:ClaimsLaw)(c_:Claim):Bool:=(!(iU x_ ({ farm:=c_.farm,reach:=r}:ClaimsUse)))
@[go_sem] def sr:List SV→Option Con:=(pI fun r=>(pX .claimsLaw fun x_=>(pX .claim fun c_=>(pE (.det True (.v (.bool (od r x_ c_))))))))
theorem yf:FnOk Tryz.prog 53 sr:=by
 have hG:ConsOk Tryz.prog (mkG [(54,fun l=>qm (cn [.st .claimsLaw,.st .claimsUse] l))] []):=ap (cgc (vO.norm [.st .claimsLaw,.st .claimsUse]) cg0) cg0;refine aL [.o] mixed aj hG (fn:=Tryz.f53) (c:=ae Tryz.f53) kr kr kr kr (aM fun r=>(sh fun x_=>(sh fun c_=>(aw (fun hp=>?_)))));dsimp only[av]at hp;refine⟨nbl rfl,L0,ag _,?_⟩
 ·unfold ae Tryz.f53;try unfold od
  exact zq1
def dW (a:ClaimsFound)(b:ClaimsFound):Int:=(cm a.claim b.claim)
@[go_sem] def su:List SV→Option Con:=(pD .claimsFound fun a=>(pD .claimsFound fun b=>(pE (.det True (.v (.int .i64 (dW a b)))))))
theorem yg:FnOk Tryz.prog 56 su:=by
 have hG:ConsOk Tryz.prog (mkG [(35,oO)] []):=ap (cgc rC cg0) cg0;refine aL [.o] mixed aj hG (fn:=Tryz.f56) (c:=ae Tryz.f56) kr kr kr kr (aI fun a=>(aI fun b=>(aw (fun hp=>?_))));dsimp only[av]at hp;refine⟨nbl rfl,L0,ag _,?_⟩
 ·unfold ae Tryz.f56;try unfold dW
  exact zq1
@[go_sem] def d9 (s_:List Int)(x_:ClaimsLaw)(c_:Claim)(k_0:Nat)(s_0:Unit):Int⊕Unit:=(bif(od (s_.getD k_0 (0:Int)) x_ c_)then .inl (k_0:Int)else .inr ())
def aZ (s_:List Int)(x_:ClaimsLaw)(c_:Claim):Int:=(match am (d9 s_ x_ c_) s_.length 0 ()with| .inl x_0_0=>x_0_0| .inr s_0=>(-1))
@[go_sem] def iV:List SV→Option Con:=(pR .int fun s_=>(pFn 53 (pX .claimsLaw fun x_=>(pX .claim fun c_=>(pE ((pE (.det True (.v (.int .i64 (aZ s_ x_ c_)))))))))))
theorem oe:FnOk Tryz.prog 52 iV:=by
 have hG:ConsOk Tryz.prog (mkG [(53,sr)] []):=ap (cgc yf cg0) cg0;refine aL [.o] mixed aj hG (fn:=Tryz.f52) (c:=ae Tryz.f52) kr kr kr kr (cI fun s_=>(vM (sh fun x_=>(sh fun c_=>(aw ((aw (fun hp=>?_))))))));dsimp only[av]at hp;refine⟨nbl rfl,(fun id st=>bif Nat.beq id 0 then some (LCR (ρ:=Int) (σ:=Unit) 0 [] [] (fun k_0 s_0=>⟨[(0,.rs .int s_),(1,.fn 53 [] [.ep (cellsOf .claimsLaw x_) 0,.ep (cellsOf .claim c_) 0]),(7,.v (.int .i64 (s_.length:Int))),(8,.v (.int .i64 (k_0:Int)))],[]⟩) (d9 s_ x_ c_) pT s_.length () (s_.length≤aU) (fun _=>.ret) (fun x_0_0=>⟨[(4,.v (.int .i64 x_0_0))],[]⟩) st)else none),?_,?_⟩
 ·unfold ae Tryz.f52;simp only[al,true_and,and_true]
  ·refine dp mixed aj hG kr (fun _=>rfl) (s_.length:Int) rfl fK (fun hb0 k_0 s_0 hlt0 _ hw hc=>⟨L0,ag _,?_⟩) (fun hb0 s_0 hc=>?_)
   ·exact bF (jl [])
   ·exact bG (jl [])
 ·unfold ae Tryz.f52;try unfold aZ
  exact zq1
@[go_sem] noncomputable def dv:List SV→Option Con:=fun l=>(iV l)
theorem nL:FnOk Tryz.prog 52 dv:=oe
end Go.Sx
end
