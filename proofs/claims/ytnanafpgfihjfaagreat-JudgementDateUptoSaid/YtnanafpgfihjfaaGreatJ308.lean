/- Part of the proof that the law JudgementDate returns true and leaves its arguments as they were, for all arguments of bulk at most 1048576 (the Upto form). -/
import Derived.Test.YtnanafpgfihjfaaGreatJ307
import Derived.Test.YtnanafpgfihjfaaGreatProg
set_option linter.all false
set_option maxHeartbeats 4000000
set_option maxRecDepth 100000
section
namespace Go.Sx
open Go.Proofs
theorem kr {p:Prop}(h:p:=by kernel_rfl):p:=h
def ti3:TI:=⟨1,8,false,[(.v (.int .i64 0))],[],0,0,false,false,(some .int),(some .i64),false,[],none,none,1⟩
def ti4:TI:=⟨1,1,false,[(.v (.bool false))],[],0,0,false,false,(some .bool),none,false,[],none,none,3⟩
def ti5:TI:=⟨1,1,false,[(.v (.int .u8 0))],[],0,0,false,false,none,(some .u8),false,[],none,none,1⟩
def ti9:TI:=⟨1,16,false,[(.v (.string (ByteArray.mk #[])))],[],0,0,false,false,(some .str),none,false,[],none,none,2⟩
def PV:TI:=⟨2,16,true,[(.v (.int .i64 0)),(.v (.int .i64 0))],[(0,(1,false)),(1,(1,false))],0,0,false,false,(some .tank),none,false,[1,1],none,none,0⟩
def PW:TI:=⟨1,24,false,[(.v (.slice none 0 0))],[],156,0,true,false,none,none,false,[],none,none,0⟩
def PX:TI:=⟨1,24,false,[(.v (.slice none 0 0))],[],158,0,true,false,none,none,false,[],none,none,0⟩
def PY:TI:=⟨1,24,false,[(.v (.slice none 0 0))],[],219,0,true,false,none,none,false,[],none,none,0⟩
def PZ:TI:=⟨1,24,false,[(.v (.slice none 0 0))],[],118,0,true,false,none,none,false,[],none,none,0⟩
def P0:TI:=⟨1,24,false,[(.v (.slice none 0 0))],[],222,0,true,false,none,none,false,[],none,none,0⟩
def P1:TI:=⟨1,24,false,[(.v (.slice none 0 0))],[],326,0,true,false,none,none,false,[],none,none,0⟩
def P2:TI:=⟨10,184,true,[(.v (.string (ByteArray.mk #[]))),(.v (.int .i64 0)),(.v (.int .i64 0)),(.v (.int .i64 0)),(.v (.slice none 0 0)),(.v (.slice none 0 0)),(.v (.slice none 0 0)),(.v (.slice none 0 0)),(.v (.slice none 0 0)),(.v (.slice none 0 0))],[(0,(1,false)),(1,(1,false)),(2,(2,true)),(4,(1,false)),(5,(1,false)),(6,(1,false)),(7,(1,false)),(8,(1,false)),(9,(1,false))],0,0,false,false,(some .district),none,false,[],none,none,0⟩
def Iy:TI:=⟨1,24,false,[(.v (.slice none 0 0))],[],68,0,true,false,none,none,false,[],none,none,0⟩
def P3:TI:=⟨1,24,false,[(.v (.slice none 0 0))],[],66,0,true,false,none,none,false,[],none,none,0⟩
def P4:TI:=⟨1,8,false,[(.v .nilFunc)],[],0,0,false,false,(some .fnc),none,false,[],none,none,0⟩
def P5:TI:=⟨1,24,false,[(.v (.slice none 0 0))],[],3,0,true,false,none,none,false,[],none,none,0⟩
def P6:TI:=⟨1,24,false,[(.v (.slice none 0 0))],[],55,0,true,false,none,none,false,[],none,none,0⟩
def P7:TI:=⟨2,48,true,[(.v (.slice none 0 0)),(.v (.slice none 0 0))],[(0,(1,false)),(1,(1,false))],0,0,false,false,(some .cases),none,false,[],none,none,0⟩
def P8:TI:=⟨1,24,false,[(.v (.slice none 0 0))],[],62,0,true,false,none,none,false,[],none,none,0⟩
def P9:TI:=⟨5,72,true,[(.v (.int .i64 0)),(.v (.int .i64 0)),(.v (.int .i64 0)),(.v (.slice none 0 0)),(.v (.slice none 0 0))],[(0,(1,false)),(1,(1,false)),(2,(1,false)),(3,(1,false)),(4,(1,false))],0,0,false,false,(some .case),none,false,[],none,none,0⟩
def P_:TI:=⟨1,24,false,[(.v (.slice none 0 0))],[],176,0,true,false,none,none,false,[],none,none,0⟩
def Qa:TI:=⟨2,48,true,[(.v (.slice none 0 0)),(.v (.slice none 0 0))],[(0,(1,false)),(1,(1,false))],0,0,false,false,(some .plea),none,false,[],none,none,0⟩
def Qb:TI:=⟨6,96,true,[(.v (.int .i64 0)),(.v (.int .i64 0)),(.v (.int .i64 0)),(.v (.slice none 0 0)),(.v (.slice none 0 0)),(.v (.slice none 0 0))],[(0,(1,false)),(1,(1,false)),(2,(1,false)),(3,(2,true)),(5,(1,false))],0,0,false,false,(some .suit),none,false,[],none,none,0⟩
def Qc:TI:=⟨1,8,false,[(.v (.map none))],[],4,0,false,false,none,none,false,[],(some .int),(some .bool),0⟩
def Qd:TI:=⟨9,72,true,[(.v (.int .i64 0)),(.v (.int .i64 0)),(.v (.int .i64 0)),(.v (.int .i64 0)),(.v (.int .i64 0)),(.v (.int .i64 0)),(.v (.int .i64 0)),(.v (.int .i64 0)),(.v (.int .i64 0))],[(0,(1,false)),(1,(1,false)),(2,(1,false)),(3,(1,false)),(4,(1,false)),(5,(1,false)),(6,(1,false)),(7,(1,false)),(8,(1,false))],0,0,false,false,(some .judgement),none,false,[1,1,1,1,1,1,1,1,1],none,none,0⟩
def Qe:TI:=⟨5,40,true,[(.v (.int .i64 0)),(.v (.int .i64 0)),(.v (.int .i64 0)),(.v (.int .i64 0)),(.v (.int .i64 0))],[(0,(1,false)),(1,(1,false)),(2,(1,false)),(3,(1,false)),(4,(1,false))],0,0,false,false,(some .claim),none,false,[1,1,1,1,1],none,none,0⟩
def Qf:TI:=⟨1,8,false,[(.v (.map none))],[],3,0,false,false,none,none,false,[],(some .int),(some .int),0⟩
def Qg:TI:=⟨1,8,false,[(.v (.map none))],[],98,0,false,false,none,none,false,[],(some .int),(some .fnc),0⟩
def Jz:TI:=⟨10,88,true,[(.v (.string (ByteArray.mk #[]))),(.v (.int .i64 0)),(.v (.int .i64 0)),(.v (.int .i64 0)),(.v (.int .i64 0)),(.v (.int .i64 0)),(.v (.int .i64 0)),(.v (.int .i64 0)),(.v (.int .i64 0)),(.v (.int .i64 0))],[(0,(1,false)),(1,(1,false)),(2,(1,false)),(3,(1,false)),(4,(1,false)),(5,(1,false)),(6,(1,false)),(7,(1,false)),(8,(1,false)),(9,(1,false))],0,0,false,false,(some .right),none,false,[2,1,1,1,1,1,1,1,1,1],none,none,0⟩
def Ca:TI:=⟨1,8,false,[(.v (.int .u64 0))],[],0,0,false,false,none,(some .u64),false,[],none,none,1⟩
def JA:TI:=⟨2,16,true,[(.v (.int .u64 0)),(.v (.int .u64 0))],[],121,2,false,true,none,none,false,[1,1],none,none,0⟩
def JB:TI:=⟨1,24,false,[(.v (.slice none 0 0))],[],132,0,true,false,none,none,false,[],none,none,0⟩
def JD:TI:=⟨3,40,true,[(.v (.int .u64 0)),(.v (.int .u64 0)),(.v (.slice none 0 0))],[(0,(2,true)),(2,(1,false))],0,0,false,false,(some .precedentsCourt),none,false,[],none,none,0⟩
def JE:TI:=⟨3,24,true,[(.v (.int .i64 0)),(.v (.int .u64 0)),(.v (.int .u64 0))],[(0,(1,false)),(1,(1,false)),(2,(1,false))],0,0,false,false,(some .precedentsDecided),none,false,[1,1,1],none,none,0⟩
def JF:TI:=⟨1,8,false,[(.v (.pointer none))],[],0,0,false,false,none,none,false,[],none,none,0⟩
def JG:TI:=⟨1,24,false,[(.v (.slice none 0 0))],[],198,0,true,false,none,none,false,[],none,none,0⟩
def JH:TI:=⟨4,64,true,[(.v (.slice none 0 0)),(.v (.slice none 0 0)),(.v (.map none)),(.v (.map none))],[(0,(2,true)),(2,(1,false)),(3,(1,false))],0,0,false,false,(some .pleasCourt),none,false,[],none,none,0⟩
def JI:TI:=⟨2,16,true,[(.v (.int .i64 0)),(.v (.int .i64 0))],[(0,(1,false)),(1,(1,false))],0,0,false,false,(some .ratio),none,false,[1,1],none,none,0⟩
def JJ:TI:=⟨4,32,true,[(.v (.int .i64 0)),(.v (.int .i64 0)),(.v (.int .i64 0)),(.v (.int .i64 0))],[],151,2,false,true,(some .ratio2),none,false,[],none,none,0⟩
def JK:TI:=⟨2,16,true,[(.v (.int .i64 0)),(.v (.int .i64 0))],[(0,(1,false)),(1,(1,false))],0,0,false,false,(some .range),none,false,[1,1],none,none,0⟩
def JM:TI:=⟨12,104,true,[(.v (.string (ByteArray.mk #[]))),(.v (.int .i64 0)),(.v (.int .i64 0)),(.v (.int .i64 0)),(.v (.int .i64 0)),(.v (.int .i64 0)),(.v (.int .i64 0)),(.v (.int .i64 0)),(.v (.int .i64 0)),(.v (.int .i64 0)),(.v (.int .i64 0)),(.v (.int .i64 0))],[(0,(1,false)),(1,(1,false)),(2,(1,false)),(3,(1,false)),(4,(1,false)),(5,(1,false)),(6,(2,true)),(8,(4,true))],0,0,false,false,(some .reach),none,false,[],none,none,0⟩
def JN:TI:=⟨4,40,true,[(.v (.string (ByteArray.mk #[]))),(.v (.int .i64 0)),(.v (.int .i64 0)),(.v (.int .i64 0))],[(0,(1,false)),(1,(1,false)),(2,(1,false)),(3,(1,false))],0,0,false,false,(some .farm),none,false,[2,1,1,1],none,none,0⟩
def JO:TI:=⟨5,56,true,[(.v (.int .i64 0)),(.v (.int .i64 0)),(.v (.int .i64 0)),(.v (.bool false)),(.v (.slice none 0 0))],[(0,(1,false)),(1,(1,false)),(2,(1,false)),(3,(1,false)),(4,(1,false))],0,0,false,false,(some .clause),none,false,[],none,none,0⟩
def JP:TI:=⟨1,8,false,[(.v .nilFunc)],[],0,0,false,false,none,none,false,[],none,none,0⟩
def JQ:TI:=⟨3,24,true,[(.v (.int .i64 0)),(.v (.int .i64 0)),(.v (.bool false))],[(0,(1,false)),(1,(1,false)),(2,(1,false))],0,0,false,false,(some .reason),none,false,[1,1,3],none,none,0⟩
def JS:TI:=⟨2,24,true,[(.v (.string (ByteArray.mk #[]))),(.v (.int .i64 0))],[(0,(1,false)),(1,(1,false))],0,0,false,false,(some .crop),none,false,[2,1],none,none,0⟩
def JT:TI:=⟨4,40,true,[(.v (.string (ByteArray.mk #[]))),(.v (.int .i64 0)),(.v (.int .i64 0)),(.v (.int .i64 0))],[(0,(1,false)),(1,(1,false)),(2,(1,false)),(3,(1,false))],0,0,false,false,(some .duty),none,false,[2,1,1,1],none,none,0⟩
def JU:TI:=⟨1,24,false,[(.v (.slice none 0 0))],[],34,0,true,false,none,none,false,[],none,none,0⟩
def ts:Tis:=fun t=>(bif Nat.ble t 66 then(bif Nat.ble t 32 then(bif Nat.ble t 24 then(bif Nat.ble t 5 then(bif Nat.ble t 3 then(bif Nat.beq t 3 then some ti3 else none)else(bif Nat.ble t 4 then(bif Nat.beq t 4 then some ti4 else none)else(bif Nat.beq t 5 then some ti5 else none)))else(bif Nat.ble t 9 then(bif Nat.beq t 9 then some ti9 else none)else(bif Nat.ble t 23 then(bif Nat.beq t 23 then some PV else none)else(bif Nat.beq t 24 then some PW else none))))else(bif Nat.ble t 27 then(bif Nat.ble t 25 then(bif Nat.beq t 25 then some PX else none)else(bif Nat.ble t 26 then(bif Nat.beq t 26 then some PY else none)else(bif Nat.beq t 27 then some PZ else none)))else(bif Nat.ble t 29 then(bif Nat.ble t 28 then(bif Nat.beq t 28 then some P0 else none)else(bif Nat.beq t 29 then some P1 else none))else(bif Nat.ble t 31 then(bif Nat.beq t 31 then some P2 else none)else(bif Nat.beq t 32 then some Iy else none)))))else(bif Nat.ble t 48 then(bif Nat.ble t 36 then(bif Nat.ble t 33 then(bif Nat.beq t 33 then some P3 else none)else(bif Nat.ble t 34 then(bif Nat.beq t 34 then some P4 else none)else(bif Nat.beq t 36 then some ti3 else none)))else(bif Nat.ble t 39 then(bif Nat.beq t 39 then some P5 else none)else(bif Nat.ble t 46 then(bif Nat.beq t 46 then some P6 else none)else(bif Nat.beq t 48 then some P7 else none))))else(bif Nat.ble t 58 then(bif Nat.ble t 49 then(bif Nat.beq t 49 then some P8 else none)else(bif Nat.ble t 55 then(bif Nat.beq t 55 then some P9 else none)else(bif Nat.beq t 58 then some P_ else none)))else(bif Nat.ble t 62 then(bif Nat.ble t 60 then(bif Nat.beq t 60 then some Qa else none)else(bif Nat.beq t 62 then some Qb else none))else(bif Nat.ble t 64 then(bif Nat.beq t 64 then some Qc else none)else(bif Nat.beq t 66 then some Qd else none))))))else(bif Nat.ble t 145 then(bif Nat.ble t 121 then(bif Nat.ble t 89 then(bif Nat.ble t 68 then(bif Nat.beq t 68 then some Qe else none)else(bif Nat.ble t 71 then(bif Nat.beq t 71 then some Qf else none)else(bif Nat.beq t 89 then some Qg else none)))else(bif Nat.ble t 92 then(bif Nat.beq t 92 then some Iy else none)else(bif Nat.ble t 118 then(bif Nat.beq t 118 then some Jz else none)else(bif Nat.beq t 121 then some Ca else none))))else(bif Nat.ble t 125 then(bif Nat.ble t 122 then(bif Nat.beq t 122 then some JA else none)else(bif Nat.ble t 123 then(bif Nat.beq t 123 then some JB else none)else(bif Nat.beq t 125 then some JD else none)))else(bif Nat.ble t 140 then(bif Nat.ble t 132 then(bif Nat.beq t 132 then some JE else none)else(bif Nat.beq t 140 then some JF else none))else(bif Nat.ble t 142 then(bif Nat.beq t 142 then some JG else none)else(bif Nat.beq t 145 then some JH else none)))))else(bif Nat.ble t 176 then(bif Nat.ble t 154 then(bif Nat.ble t 151 then(bif Nat.beq t 151 then some JI else none)else(bif Nat.ble t 152 then(bif Nat.beq t 152 then some JJ else none)else(bif Nat.beq t 154 then some JK else none)))else(bif Nat.ble t 156 then(bif Nat.beq t 156 then some JM else none)else(bif Nat.ble t 158 then(bif Nat.beq t 158 then some JN else none)else(bif Nat.beq t 176 then some JO else none))))else(bif Nat.ble t 211 then(bif Nat.ble t 178 then(bif Nat.beq t 178 then some JP else none)else(bif Nat.ble t 198 then(bif Nat.beq t 198 then some JQ else none)else(bif Nat.beq t 211 then some Ca else none)))else(bif Nat.ble t 219 then(bif Nat.ble t 214 then(bif Nat.beq t 214 then some ti3 else none)else(bif Nat.beq t 219 then some JS else none))else(bif Nat.ble t 222 then(bif Nat.beq t 222 then some JT else none)else(bif Nat.beq t 229 then some JU else none)))))))
theorem TN:cy Tryz.prog 3=some ti3:=by kernel_rfl
theorem TP:cy Tryz.prog 4=some ti4:=by kernel_rfl
theorem TQ:cy Tryz.prog 5=some ti5:=by kernel_rfl
theorem TR:cy Tryz.prog 9=some ti9:=by kernel_rfl
theorem Qh:cy Tryz.prog 23=some PV:=by kernel_rfl
theorem Qi:cy Tryz.prog 24=some PW:=by kernel_rfl
theorem Qj:cy Tryz.prog 25=some PX:=by kernel_rfl
theorem Qk:cy Tryz.prog 26=some PY:=by kernel_rfl
theorem Ql:cy Tryz.prog 27=some PZ:=by kernel_rfl
theorem Qm:cy Tryz.prog 28=some P0:=by kernel_rfl
theorem Qn:cy Tryz.prog 29=some P1:=by kernel_rfl
theorem Qo:cy Tryz.prog 31=some P2:=by kernel_rfl
theorem Qp:cy Tryz.prog 32=some Iy:=by kernel_rfl
theorem Qq:cy Tryz.prog 33=some P3:=by kernel_rfl
theorem Qr:cy Tryz.prog 34=some P4:=by kernel_rfl
theorem Qs:cy Tryz.prog 36=some ti3:=by kernel_rfl
theorem Qt:cy Tryz.prog 39=some P5:=by kernel_rfl
theorem Qu:cy Tryz.prog 46=some P6:=by kernel_rfl
theorem Qv:cy Tryz.prog 48=some P7:=by kernel_rfl
theorem Qw:cy Tryz.prog 49=some P8:=by kernel_rfl
theorem Qy:cy Tryz.prog 55=some P9:=by kernel_rfl
theorem Qz:cy Tryz.prog 58=some P_:=by kernel_rfl
theorem QA:cy Tryz.prog 60=some Qa:=by kernel_rfl
theorem QB:cy Tryz.prog 62=some Qb:=by kernel_rfl
theorem QC:cy Tryz.prog 64=some Qc:=by kernel_rfl
theorem QD:cy Tryz.prog 66=some Qd:=by kernel_rfl
theorem QE:cy Tryz.prog 68=some Qe:=by kernel_rfl
theorem QF:cy Tryz.prog 71=some Qf:=by kernel_rfl
theorem QG:cy Tryz.prog 89=some Qg:=by kernel_rfl
theorem QH:cy Tryz.prog 92=some Iy:=by kernel_rfl
theorem Na:cy Tryz.prog 118=some Jz:=by kernel_rfl
theorem Nb:cy Tryz.prog 121=some Ca:=by kernel_rfl
theorem Nc:cy Tryz.prog 122=some JA:=by kernel_rfl
theorem Nd:cy Tryz.prog 123=some JB:=by kernel_rfl
theorem Nf:cy Tryz.prog 125=some JD:=by kernel_rfl
theorem Ng:cy Tryz.prog 132=some JE:=by kernel_rfl
theorem Nh:cy Tryz.prog 140=some JF:=by kernel_rfl
theorem Ni:cy Tryz.prog 142=some JG:=by kernel_rfl
theorem Nj:cy Tryz.prog 145=some JH:=by kernel_rfl
theorem Nk:cy Tryz.prog 151=some JI:=by kernel_rfl
theorem Nl:cy Tryz.prog 152=some JJ:=by kernel_rfl
theorem Nm:cy Tryz.prog 154=some JK:=by kernel_rfl
theorem Nn:cy Tryz.prog 156=some JM:=by kernel_rfl
theorem No:cy Tryz.prog 158=some JN:=by kernel_rfl
theorem Np:cy Tryz.prog 176=some JO:=by kernel_rfl
theorem Nq:cy Tryz.prog 178=some JP:=by kernel_rfl
theorem Nr:cy Tryz.prog 198=some JQ:=by kernel_rfl
theorem Ns:cy Tryz.prog 211=some Ca:=by kernel_rfl
theorem Nt:cy Tryz.prog 214=some ti3:=by kernel_rfl
theorem Nu:cy Tryz.prog 219=some JS:=by kernel_rfl
theorem Nv:cy Tryz.prog 222=some JT:=by kernel_rfl
theorem Nw:cy Tryz.prog 229=some JU:=by kernel_rfl
theorem al:Tis.ok ts Tryz.prog:=(Tis.ok_node (Tis.ok_node (Tis.ok_node (Tis.ok_node (Tis.ok_node (Tis.ok_leaf TN) (Tis.ok_node (Tis.ok_leaf TP) (Tis.ok_leaf TQ))) (Tis.ok_node (Tis.ok_leaf TR) (Tis.ok_node (Tis.ok_leaf Qh) (Tis.ok_leaf Qi)))) (Tis.ok_node (Tis.ok_node (Tis.ok_leaf Qj) (Tis.ok_node (Tis.ok_leaf Qk) (Tis.ok_leaf Ql))) (Tis.ok_node (Tis.ok_node (Tis.ok_leaf Qm) (Tis.ok_leaf Qn)) (Tis.ok_node (Tis.ok_leaf Qo) (Tis.ok_leaf Qp))))) (Tis.ok_node (Tis.ok_node (Tis.ok_node (Tis.ok_leaf Qq) (Tis.ok_node (Tis.ok_leaf Qr) (Tis.ok_leaf Qs))) (Tis.ok_node (Tis.ok_leaf Qt) (Tis.ok_node (Tis.ok_leaf Qu) (Tis.ok_leaf Qv)))) (Tis.ok_node (Tis.ok_node (Tis.ok_leaf Qw) (Tis.ok_node (Tis.ok_leaf Qy) (Tis.ok_leaf Qz))) (Tis.ok_node (Tis.ok_node (Tis.ok_leaf QA) (Tis.ok_leaf QB)) (Tis.ok_node (Tis.ok_leaf QC) (Tis.ok_leaf QD)))))) (Tis.ok_node (Tis.ok_node (Tis.ok_node (Tis.ok_node (Tis.ok_leaf QE) (Tis.ok_node (Tis.ok_leaf QF) (Tis.ok_leaf QG))) (Tis.ok_node (Tis.ok_leaf QH) (Tis.ok_node (Tis.ok_leaf Na) (Tis.ok_leaf Nb)))) (Tis.ok_node (Tis.ok_node (Tis.ok_leaf Nc) (Tis.ok_node (Tis.ok_leaf Nd) (Tis.ok_leaf Nf))) (Tis.ok_node (Tis.ok_node (Tis.ok_leaf Ng) (Tis.ok_leaf Nh)) (Tis.ok_node (Tis.ok_leaf Ni) (Tis.ok_leaf Nj))))) (Tis.ok_node (Tis.ok_node (Tis.ok_node (Tis.ok_leaf Nk) (Tis.ok_node (Tis.ok_leaf Nl) (Tis.ok_leaf Nm))) (Tis.ok_node (Tis.ok_leaf Nn) (Tis.ok_node (Tis.ok_leaf No) (Tis.ok_leaf Np)))) (Tis.ok_node (Tis.ok_node (Tis.ok_leaf Nq) (Tis.ok_node (Tis.ok_leaf Nr) (Tis.ok_leaf Ns))) (Tis.ok_node (Tis.ok_node (Tis.ok_leaf Nt) (Tis.ok_leaf Nu)) (Tis.ok_node (Tis.ok_leaf Nv) (Tis.ok_leaf Nw)))))))
@[go_sem] theorem ts_3:ts 3=some ti3:=(rfl)
@[go_sem] theorem ts_4:ts 4=some ti4:=(rfl)
@[go_sem] theorem ts_5:ts 5=some ti5:=(rfl)
@[go_sem] theorem ts_9:ts 9=some ti9:=(rfl)
@[go_sem] theorem ts_23:ts 23=some PV:=(rfl)
@[go_sem] theorem ts_24:ts 24=some PW:=(rfl)
@[go_sem] theorem ts_25:ts 25=some PX:=(rfl)
@[go_sem] theorem ts_26:ts 26=some PY:=(rfl)
@[go_sem] theorem ts_27:ts 27=some PZ:=(rfl)
@[go_sem] theorem ts_28:ts 28=some P0:=(rfl)
@[go_sem] theorem ts_29:ts 29=some P1:=(rfl)
@[go_sem] theorem ts_31:ts 31=some P2:=(rfl)
@[go_sem] theorem ts_32:ts 32=some Iy:=(rfl)
@[go_sem] theorem ts_33:ts 33=some P3:=(rfl)
@[go_sem] theorem ts_34:ts 34=some P4:=(rfl)
@[go_sem] theorem ts_36:ts 36=some ti3:=(rfl)
@[go_sem] theorem ts_39:ts 39=some P5:=(rfl)
@[go_sem] theorem ts_46:ts 46=some P6:=(rfl)
@[go_sem] theorem ts_48:ts 48=some P7:=(rfl)
@[go_sem] theorem ts_49:ts 49=some P8:=(rfl)
@[go_sem] theorem ts_55:ts 55=some P9:=(rfl)
@[go_sem] theorem ts_58:ts 58=some P_:=(rfl)
@[go_sem] theorem ts_60:ts 60=some Qa:=(rfl)
@[go_sem] theorem ts_62:ts 62=some Qb:=(rfl)
@[go_sem] theorem ts_64:ts 64=some Qc:=(rfl)
@[go_sem] theorem ts_66:ts 66=some Qd:=(rfl)
@[go_sem] theorem ts_68:ts 68=some Qe:=(rfl)
@[go_sem] theorem ts_71:ts 71=some Qf:=(rfl)
@[go_sem] theorem ts_89:ts 89=some Qg:=(rfl)
@[go_sem] theorem ts_92:ts 92=some Iy:=(rfl)
@[go_sem] theorem aaI:ts 118=some Jz:=(rfl)
@[go_sem] theorem aaJ:ts 121=some Ca:=(rfl)
@[go_sem] theorem aaK:ts 122=some JA:=(rfl)
@[go_sem] theorem aaL:ts 123=some JB:=(rfl)
@[go_sem] theorem aaM:ts 125=some JD:=(rfl)
@[go_sem] theorem aaN:ts 132=some JE:=(rfl)
@[go_sem] theorem aaO:ts 140=some JF:=(rfl)
@[go_sem] theorem aaP:ts 142=some JG:=(rfl)
@[go_sem] theorem aaQ:ts 145=some JH:=(rfl)
@[go_sem] theorem aaR:ts 151=some JI:=(rfl)
@[go_sem] theorem aaS:ts 152=some JJ:=(rfl)
@[go_sem] theorem aaT:ts 154=some JK:=(rfl)
@[go_sem] theorem aaU:ts 156=some JM:=(rfl)
@[go_sem] theorem aaV:ts 158=some JN:=(rfl)
@[go_sem] theorem aaW:ts 176=some JO:=(rfl)
@[go_sem] theorem aaX:ts 178=some JP:=(rfl)
@[go_sem] theorem aaY:ts 198=some JQ:=(rfl)
@[go_sem] theorem aaZ:ts 211=some Ca:=(rfl)
@[go_sem] theorem aa0:ts 214=some ti3:=(rfl)
@[go_sem] theorem aa1:ts 219=some JS:=(rfl)
@[go_sem] theorem aa2:ts 222=some JT:=(rfl)
@[go_sem] theorem aa3:ts 229=some JU:=(rfl)
attribute [go_sem] ti3 ti4 ti5 ti9 PV PW PX PY PZ P0 P1 P2 Iy P3 P4 P5 P6 P7 P8 P9 P_ Qa Qb Qc Qd Qe Qf Qg Jz Ca JA JB JD JE JF JG JH JI JJ JK JM JN JO JP JQ JS JT JU
theorem mixed:Tryz.prog.follows .mixedOrders=true:=by kernel_rfl
def lg:List SV→Option Con
 | [.v (.iface t (.int .i64 e))] =>bif Nat.beq t 214 then some (.det True (.i e))else none
 |_=>none
theorem zH:FnOk Tryz.prog 106 lg:=by
 have hG:ConsOk Tryz.prog (mkG [] []):=ap (by simp) (by simp);refine av [.o] mixed al hG (fn:=Tryz.f106) (c:=ae Tryz.f106) kr kr kr kr fun l con h hp=>?_;unfold lg at h;split at h
 ·rename_i t e;cases ht:Nat.beq t 214 with
  |false=>rw[ht]at h;cases h
  |true=>
   rw[ht]at h;cases h;have ht':=Nat.eq_of_beq_eq_true ht;subst ht';refine⟨nbl rfl,L0,by unfold ae Tryz.f106;simp only[am,and_self],?_⟩;unfold ae Tryz.f106;simp only[go_sem,true_imp_iff,false_imp_iff,Nat.reduceBEq,Nat.reduceLeDiff,Nat.reduceAdd,Nat.reduceSub,Nat.reduceMul,true_and,and_true,implies_true,reduceCtorEq]
 ·cases h
def TS:Value→Option SV
 | .iface t (.int .i64 e) =>bif Nat.beq t 214 then some (.i e)else none
 |_=>none
theorem Nx:GI Tryz.prog 105 TS:=by
 obtain⟨fn,hfn,hbody,hn,hres⟩:∃ fn,Tryz.prog.funcs[105]? =some fn∧fn.body=some (ae Tryz.f105)∧fn.ntmps=7∧fn.results= #[]:=⟨Tryz.f105,by kernel_rfl,by kernel_rfl,by kernel_rfl,by kernel_rfl⟩;have hG:ConsOk Tryz.prog (mkG [(106,lg)] []):=ap (by
  intro x hx;simp only[List.mem_cons,List.not_mem_nil,or_false]at hx;rcases hx with rfl;exact zH) (by simp)
 refine⟨fun args w=>by kernel_rfl,fun p w=>?_,?_⟩
 ·refine callsDIn_of_wpSIn hfn hbody trivial fun c₀ cs hu=>?_;unfold ae Tryz.f105;refine wpSIn_seq (wpSIn_region ?_);simp[wpOpsSIn,go_sem,recoverD,hu,hn,Exit.thenS,Oper.about,Region.wanted];refine wpSIn_seq (wpSIn_region ?_);simp[wpOpsSIn,go_sem,recoverD,hu,Exit.thenS,Oper.about,Region.wanted];refine wpSIn_cond (t:=false) (by simp[Act.eval]) ?_;simp only[Bool.false_eq_true,if_false];refine wpSIn_of_wpIn rfl (wpIn_skip ?_);cases c₀;simp_all [bodyPostS,results]
 ·intro x s hx F own w h id hd b y hfw hp hob ho hpb;unfold TS at hx;split at hx
  ·rename_i t e;cases ht:Nat.beq t 214 with
   |false=>rw[ht]at hx;cases hx
   |true=>
    rw[ht]at hx;cases hx;have ht':=Nat.eq_of_beq_eq_true ht;subst ht';refine callsDIn_of_wpSIn hfn hbody trivial fun c₀ cs hu=>?_;unfold ae Tryz.f105;refine wpSIn_seq (wpSIn_region ?_);simp[wpOpsSIn,go_sem,recoverD,hu,hn,Exit.thenS,Oper.about,Region.wanted];refine wpSIn_seq (wpSIn_region ?_);simp[wpOpsSIn,go_sem,recoverD,hu,Exit.thenS,Oper.about,Region.wanted];refine wpSIn_cond (t:=true) (by simp[Act.eval]) ?_;simp only[if_true];refine wpSIn_of_wpIn rfl ?_;have hr:StRel F { w:=w,own:=own} 7 own ⟨[(0,.ptr id 0),(1,.v (.iface 214 (.int .i64 e)))],h⟩ { tmps:= #[.pointer (some ⟨b,0,none⟩),.iface 214 (.int .i64 e),.iface 214 (.int .i64 e),.iface 214 (.int .i64 e),.bool true,undef,undef],defers:=[]} w:=by
     refine⟨rfl,Dfr.nil,hp,Fr.refl { w:=w,own:=own},fun t=>?_⟩;rw[ov];by_cases h0:0=t
     ·subst h0;rw[if_pos rfl];exact .ptr ho hpb
     ·rw[if_neg h0,ov];by_cases h1:1=t
      ·subst h1;rw[if_pos rfl];exact .v _
      ·rw[if_neg h1];exact .any _
    refine wpIn_mono (vg (ts:=ts) (L:=L0) (Q:=fun st=>st.h=bf h id (.cells [.i e])) mixed al hG kr ?_ hr) ?_
    ·simp only[go_sem,hob,ve (h:=h) (i:=id) (o:=.cells [.v (.int .i64 e)]) rfl hfw,lg,Nat.reduceBEq,Nat.reduceLeDiff,Nat.reduceAdd,true_and,and_true,true_imp_iff]
    ·rintro ex a' w' ⟨rfl,own1,st1,hst1,hh⟩;have hd0:a'.defers=[]:=by
      obtain⟨ms,Ds,q0,q1,q2,q3⟩:=hst1.defers;cases Ds with
      |nil=>rw[q0];simp at q1;simp[q1]
      |cons D r=>
       obtain⟨m1,m2,_⟩:=q3 D (by simp);have:=hp.foreign D m2;simp only at m1;omega
     refine⟨hd0,.panicking [{ v:=.iface 214 (.int .i64 e),recovered:=true}],?_,_,by simp[results,hres];rfl,⟨_,rfl⟩,rfl,own1,hh▸hst1.hp,hst1.fr⟩;cases c₀;simp_all
  ·cases hx
attribute [go_sem] lg
abbrev SV.u (n:Nat):SV:=.v (.int .u64 (n:Int))
def EY (ps:List (Nat×(List SV→Option Con)))(os:List (Nat×(List SV→List Ob→Option HCon)))(Y:List SV→Res→Option YCon):Cons:=⟨mkP ps,mkO os,Y⟩
@[go_sem] theorem aa4 {ps:List (Nat×(List SV→Option Con))}{os:List (Nat×(List SV→List Ob→Option HCon))}{Y:List SV→Res→Option YCon}:(EY ps os Y).p=mkP ps:=(rfl)
@[go_sem] theorem aa5 {ps:List (Nat×(List SV→Option Con))}{os:List (Nat×(List SV→List Ob→Option HCon))}{Y:List SV→Res→Option YCon}:(EY ps os Y).o=mkO os:=(rfl)
@[go_sem] theorem aa6 {ps:List (Nat×(List SV→Option Con))}{os:List (Nat×(List SV→List Ob→Option HCon))}{Y:List SV→Res→Option YCon}:(EY ps os Y).y=Y:=(rfl)
theorem EZ {P:Program}{ps:List (Nat×(List SV→Option Con))}{os:List (Nat×(List SV→List Ob→Option HCon))}{Y:List SV→Res→Option YCon}(h1:∀ x∈ps,FnOk P x.1 x.2)(h2:∀ x∈os,FnOkO P x.1 x.2)(h3:YOk P Y):ConsOk P (EY ps os Y):=⟨Iu ps h1,Iv os h2,h3⟩
def C90:List SV→List Ob→Option HCon:=fun l h=>noH h ((pU fun n=>pU fun d=>pE { α:=Unit,pre:=True,post:=fun _=>True,res:=fun _=>.ret (.fn 271 [] [.ptr 0 0,.ptr 1 0]) [.cells [.v (.int .u64 n)],.cells [.v (.int .u64 d)]]}) l)
theorem TT:FnOkO Tryz.prog 268 C90:=by
 have hG:ConsOk Tryz.prog (mkG [] []):=ap (by simp) (by simp);refine Gz mixed al hG (fn:=Tryz.f268) (c:=ae Tryz.f268) kr kr kr kr fun l o con h hp=>?_;unfold C90 at h;obtain⟨rfl,h⟩:=PQ h;obtain⟨n,l0,rfl,h0⟩:=zG h;obtain⟨d,l1,rfl,h1⟩:=zG h0;obtain⟨rfl,rfl⟩:=B4 h1;refine⟨nbl rfl,L0,by unfold ae Tryz.f268;simp only[am,and_self],?_⟩;unfold ae Tryz.f268;simp only[go_sem,true_imp_iff,decide_eq_true_eq,Nat.reduceBEq,Nat.reduceLeDiff,Nat.reduceAdd,Nat.reduceSub,Nat.reduceMul,true_and,and_true,implies_true];refine⟨(),_,_,[0,1],rfl,?_⟩;simp only[go_sem,Nat.reduceBEq,Nat.reduceLeDiff,Nat.reduceAdd,true_and,and_true];exact⟨rfl,rfl⟩
def zI:Nat→Nat→Nat→List Nat
 |0,n,d=>if n=0 then []else [n,d]
 |f+1,n,d=>if n=0 then []else n::(if n % max d 1=0 then [d]else zI f d (n % max d 1))
def rD (f n d:Nat):List (List SV):=(zI f n d).map fun x=>[SV.u x]
theorem Ny (f d:Nat):rD f 0 d=[]:=by cases f <;>rfl
theorem Nz {f n d:Nat}(hn:n≠0)(hf:d≤f):∃ T,rD f n d=[SV.u n]::T∧(n % max d 1=0→T=[[SV.u d]])∧(n % max d 1≠0→∃ f',T=rD f' d (n % max d 1)∧n % max d 1≤f'∧n % max d 1<d):=by
 cases f with
 |zero=>
  have hd:d=0:=by omega
  subst hd;refine⟨[[SV.u 0]],by simp[rD,zI,hn],fun _=>rfl,fun h=>?_⟩;exfalso;apply h;simp[Nat.mod_one]
 |succ f=>
  by_cases h0:n % max d 1=0
  ·exact⟨[[SV.u d]],by simp[rD,zI,hn,h0],fun _=>rfl,fun h=>absurd h0 h⟩
  ·refine⟨rD f d (n % max d 1),by simp[rD,zI,hn,h0],fun h=>absurd h h0,fun _=>⟨f,rfl,?_⟩⟩;have hlt:n % max d 1<max d 1:=Nat.mod_lt _ (by omega);have hd:1≤d:=by
    rcases Nat.eq_zero_or_pos d with h|h
    ·subst h;exfalso;apply h0;simp[Nat.mod_one]
    ·exact h
   omega
theorem NA (n d:Nat):((n:Int).tmod (if(d:Int) <1 then 1 else(d:Int)))=((n % max d 1:Nat):Int):=by
 have e:(if(d:Int) <1 then(1:Int)else(d:Int))=((max d 1:Nat):Int):=by split <;>omega
 rw[e,Int.tmod_eq_emod_of_nonneg (by omega)];rfl
open Classical in
theorem TU (n0 d0:Nat):GC Tryz.prog 271 (fun y=>[y,.ptr 1 0,.ptr 2 0]) [.cells [SV.u n0],.cells [SV.u d0]] (rD d0 n0 d0):=by
 refine RW (fun r hr hy=>?_) (fun args w=>by kernel_rfl);have hG:ConsOk Tryz.prog (EY [] [] (itY (rD d0 n0 d0) r)):=EZ (by simp) (by simp) hy;refine⟨fun l h=>if l=[.os 0,.ptr 1 0,.ptr 2 0]∧h=[.ab (r 1),.cells [SV.u n0],.cells [SV.u d0]]then some { α:=Nat,pre:=True,post:=fun j=>j=0∨j=(rD d0 n0 d0).length+1,res:=fun j=>.ret (.tup []) [.ab (r j),.dead,.dead]}else none,
  ?_,_,if_pos ⟨rfl,rfl⟩,trivial,fun j hj=>⟨_,j,_,rfl,hj⟩⟩
 refine Gz mixed al hG (fn:=Tryz.f271) (c:=ae Tryz.f271) kr kr kr kr fun l o con h hp=>?_;split at h
 ·rename_i hlo;obtain⟨rfl,rfl⟩:=hlo;cases h;refine⟨nbl rfl,fun id st=>bif Nat.beq id 0 then some { α:=Nat×Bool,pre:=lk 0 st.t=.os 0∧lk 1 st.t=.ptr 1 0∧lk 2 st.t=.ptr 2 0∧st.h=[.ab (r 1),.cells [SV.u n0],.cells [SV.u d0]],post:=fun j=>j.1=0∨j.1=(rD d0 n0 d0).length+1,ex:=fun j=>bif j.2 then .ret else .normal,out:=fun j=>⟨[],[.ab (r j.1),.dead,.dead]⟩:LCon}else none,?_,?_⟩
  ·unfold ae Tryz.f271;simp only[am,true_and,and_true];refine GA mixed al hG kr fun st lc hC hp=>?_;simp only[go_sem,Nat.reduceBEq,Option.some.injEq]at hC;subst hC;obtain⟨t,h⟩:=st;dsimp only at hp;obtain⟨h0,h1,h2,rfl⟩:=hp;refine⟨Nat×Nat×Nat×Nat,fun x=>⟨[(0,.os 0),(1,.ptr 1 0),(2,.ptr 2 0)],[.ab (r (x.1+1)),.cells [SV.u x.2.2.1],.cells [SV.u x.2.2.2]]⟩,fun x=>x.2.2.2≤x.2.1∧(rD d0 n0 d0).drop x.1=rD x.2.1 x.2.2.1 x.2.2.2∧x.1≤(rD d0 n0 d0).length,fun x=>x.2.2.2,(0,d0,n0,d0),[0,1,2],⟨Nat.le_refl _,rfl,Nat.zero_le _⟩,Nat.le_refl _,?_,?_⟩
   ·simp only[go_sem,h0,h1,h2,Nat.reduceBEq,Nat.reduceLeDiff,Nat.reduceAdd,true_and,and_true];decide
   ·rintro⟨k,f,n,d⟩ ⟨hf,hdrop,hk⟩;simp only at hf hdrop hk;refine⟨L0,_,by simp only[am,and_self],fun _ _ q=>q,?_⟩;simp only[go_sem,M3 hr,true_imp_iff,decide_eq_true_eq,NA,Bool.false_eq_true,false_imp_iff,Nat.reduceBEq,Nat.reduceLeDiff,Nat.reduceAdd,Nat.reduceSub,Nat.reduceMul,true_and,and_true,implies_true];have hget:∀ (l:List (List SV)) (j:Nat),l=(rD d0 n0 d0).drop k→(rD d0 n0 d0)[k+j]? =l[j]?:=fun l j e=>by rw[e,List.getElem?_drop]
    have hlen:(rD f n d).length=(rD d0 n0 d0).length - k:=by rw[←hdrop,List.length_drop]
    refine⟨fun hn=>?_,fun hn=>?_⟩
    ·have hn':n≠0:=by simpa using hn
     obtain⟨T,e1,e2,e3⟩:=Nz hn' hf;have hT:(rD d0 n0 d0).drop (k+1)=T:=by rw[←List.drop_drop,hdrop,e1];rfl
     have h0':=hget _ 0 hdrop.symm;rw[e1]at h0';have hk1:k+1≤(rD d0 n0 d0).length:=by
      have:=(List.getElem?_eq_some_iff.1 h0').1;omega
     refine⟨h0',⟨fun _=>⟨by split <;>omega,rfl,fun h2=>?_,fun h2=>?_⟩,fun h2=>?_⟩,?_⟩
     ·have h3:n % max d 1=0:=by
       have:=eq_of_beq h2;generalize n % max d 1=q at this ⊢;omega
      have hT2:=e2 h3;have hl2:(rD d0 n0 d0).length=k+2:=by
       have:=congrArg List.length hT;rw[hT2,List.length_drop]at this;simp at this;omega
      refine⟨?_,⟨(k+1+2,true),[0,1,2],.inr (by rw[hl2]),rfl,⟨rfl,rfl,rfl⟩,by simp[CX,Ey,Bv,unp,aj,cF,uW,vC]⟩,⟨(0,true),[0,1,2],.inl rfl,rfl,⟨rfl,rfl,rfl⟩,by simp[CX,Ey,Bv,unp,aj,cF,uW,vC]⟩⟩;have:(rD d0 n0 d0)[k+1]? =T[0]?:=by rw[←hT,List.getElem?_drop]
      rw[this,hT2];rfl
     ·have h3:n % max d 1≠0:=fun e=>by rw[e]at h2;simp at h2
      obtain⟨f',m1,m2,m3⟩:=e3 h3;exact⟨(k+1,f',d,n % max d 1),[0,1,2],⟨m2,by rw[hT,m1],hk1⟩,m3,⟨rfl,rfl,rfl⟩,by simp[CX,Ey,Bv,unp,aj,cF,uW,vC,nth,nA,ren,wkL,FT]⟩
     ·exact absurd hn (by rw[h2];simp)
     ·exact⟨(0,false),[0,1,2],.inl rfl,rfl,⟨rfl,rfl,rfl⟩,by simp[CX,Ey,Bv,unp,aj,cF,uW,vC]⟩
    ·have hn':n=0:=by simpa using hn
     subst hn';rw[Ny]at hlen;simp at hlen;exact⟨by simpa using hn,(k+1,false),[0,1,2],.inr (by show k+1=_;omega),rfl,⟨rfl,rfl,rfl⟩,by simp[CX,Ey,Bv,unp,aj,cF,uW,vC]⟩
  ·unfold ae Tryz.f271;simp only[go_sem,true_imp_iff,decide_eq_true_eq,Nat.reduceBEq,Nat.reduceLeDiff,Nat.reduceAdd,Nat.reduceSub,Nat.reduceMul,true_and,and_true,implies_true];rintro⟨j,b⟩ hj;cases b
   ·simp only[go_sem];exact⟨j,_,_,[0,1,2],hj,rfl,Nat.le_refl 3,by simp only[go_sem,Nat.reduceBEq,Nat.reduceLeDiff,Nat.reduceAdd,true_and,and_true];decide⟩
   ·simp only[go_sem];exact⟨j,_,_,[0,1,2],hj,rfl,Nat.le_refl 3,by simp only[go_sem,Nat.reduceBEq,Nat.reduceLeDiff,Nat.reduceAdd,true_and,and_true];decide⟩
 ·cases h
def Lf (n d:Nat):Nat:=if d=0 then n else(zI d n d).getLastD d
def C83:List SV→Option Con:=pU fun n=>pU fun d=>pE (.det (0≤n∧0≤d) (SV.u (Lf n.toNat d.toNat)))
theorem TV:FnOk Tryz.prog 262 C83:=by
 have hG:ConsOk Tryz.prog (mkG [] [(268,C90)]):=ap (by simp) (by
  intro x hx;simp only[List.mem_cons,List.not_mem_nil,or_false]at hx;rcases hx with rfl;exact TT)
 refine Is false mixed al hG (fn:=Tryz.f262) (c:=ae Tryz.f262) kr kr kr kr fun l con h hp=>?_;unfold C83 at h;obtain⟨n',l0,rfl,h0⟩:=zG h;obtain⟨d',l1,rfl,h1⟩:=zG h0;obtain⟨rfl,rfl⟩:=B4 h1;clear h h0 h1;obtain⟨hn,hd⟩:=hp;obtain⟨n,rfl⟩:=Int.eq_ofNat_of_zero_le hn;obtain⟨d,rfl⟩:=Int.eq_ofNat_of_zero_le hd;refine⟨nbl rfl,fun id st=>bif Nat.beq id 0 then some { α:=Unit,pre:=st.h=[.cells [SV.u d],.cells [SV.u n],.cells [SV.u d]]∧lk 12 st.t=.fn 271 [] [.ptr 1 0,.ptr 2 0]∧lk 4 st.t=.ptr 0 0,post:=fun _=>True,ex:=fun _=>.normal,out:=fun _=>⟨[(4,.ptr 0 0)],[.cells [SV.u ((zI d n d).getLastD d)],.dead,.dead]⟩:LCon}else none,?_,?_⟩
 ·unfold ae Tryz.f262;simp only[am,true_and,and_true];refine GG mixed al hG (by decide) (by decide) kr kr fun st lc hC hp=>?_;simp only[go_sem,Nat.reduceBEq,Option.some.injEq]at hC;subst hC;obtain⟨t,h⟩:=st;dsimp only at hp;obtain⟨rfl,h12,h4⟩:=hp;refine⟨271,[.ptr 1 0,.ptr 2 0],rD d n d,Nat,[(4,.ptr 0 0)],fun v=>[.cells [SV.u v],.dead,.dead],fun k v=>v=((zI d n d).take k).getLastD d,fun _ _=>False,d,[0,1,2],h12,rfl,Nat.le_refl _,?_,TU n d,?_,?_,fun _ h=>h.elim,fun _ _ h=>h.elim⟩
  ·show Sub [0,1,2] 3 ⟨t,[.cells [SV.u d],.dead,.dead]⟩ ⟨[(4,.ptr 0 0)],[.cells [SV.u d],.dead,.dead]⟩;simp only[go_sem,h4,Nat.reduceBEq,Nat.reduceLeDiff,Nat.reduceAdd,true_and,and_true];decide
  ·intro k y args hk hI;unfold rD at hk;rw[List.getElem?_map,Option.map_eq_some_iff]at hk;obtain⟨x,hx,rfl⟩:=hk;refine⟨rfl,L0,_,fun l=>by simp only[am],fun l=>by simp only[am],fun _ _ q=>q,?_⟩;show exec ts _ L0 _ ⟨[(13,SV.u x),(4,SV.ptr 0 0)],[.cells [SV.u y],.dead,.dead]⟩ _;simp only[go_sem,true_imp_iff,Nat.reduceBEq,Nat.reduceLeDiff,Nat.reduceAdd,true_and,and_true];refine⟨x,[0,1,2],?_,Nat.le_refl 3,?_⟩
   ·have hlt:=(List.getElem?_eq_some_iff.1 hx).1;have hx2:=(List.getElem?_eq_some_iff.1 hx).2;show x=((zI d n d).take (k+1)).getLastD d;rw[List.take_succ_eq_append_getElem hlt,hx2];simp[List.getLastD_concat]
   ·simp only[go_sem,Nat.reduceBEq,Nat.reduceLeDiff,Nat.reduceAdd,true_and,and_true];decide
  ·intro y hI;refine⟨(),[0,1,2],trivial,rfl,Nat.le_refl _,?_⟩;have hy:y=(zI d n d).getLastD d:=by rw[hI,List.take_of_length_le (by simp[rD])]
   subst hy;show Sub [0,1,2] 3 ⟨[(4,.ptr 0 0)],[.cells [SV.u _],.dead,.dead]⟩ ⟨[(4,.ptr 0 0)],[.cells [SV.u _],.dead,.dead]⟩;simp only[go_sem,Nat.reduceBEq,Nat.reduceLeDiff,Nat.reduceAdd,true_and,and_true];decide
 ·unfold ae Tryz.f262;simp only[go_sem,C90,true_imp_iff,decide_eq_true_eq,Bool.false_eq_true,false_imp_iff,Nat.reduceBEq,Nat.reduceLeDiff,Nat.reduceAdd,Nat.reduceSub,Nat.reduceMul,true_and,and_true,implies_true];refine⟨fun h=>?_,fun h _ _=>?_⟩
  ·have h':d=0:=by simpa using h
   simp[Lf,h']
  ·have h':d≠0:=by simpa using h
   simp[Lf,h']
attribute [go_sem] C83
end Go.Sx
end
section
namespace Go.Sx
open Go.RowKit
inductive NilS:St→St→Prop where
 |refl (st:St):NilS st st
 |cell {st:St} {t:List (Nat×SV)} {h:List Ob} {i j:Nat} {l:List SV} (o:Ob):NilS st ⟨t,h⟩→aj h i=.cells l→l[j]? =some (.v (.slice none 0 0))→((∃ k,o=.row k [])∨∃ k,o=.grid k [])→NilS st ⟨t,bf h i (.cells (l.set j (.os h.length)))++[o]⟩
 |slot {st:St} {t:List (Nat×SV)} {h:List Ob} {i:Nat} (o:Ob):NilS st ⟨t,h⟩→lk i t=.v (.slice none 0 0)→((∃ k,o=.row k [])∨∃ k,o=.grid k [])→NilS st ⟨(i,.os h.length)::t,h++[o]⟩
 |slotE {st:St} {t:List (Nat×SV)} {h:List Ob} {i:Nat} (k:Tag):NilS st ⟨t,h⟩→lk i t=.e0→NilS st ⟨(i,.os h.length)::t,h++[.row k []]⟩
section
variable {P:Program}{F:Nat→Prop}{w0:Bs}{N:Nat}
theorem DR (h:List Ob)(o:Ob):aj (h++[o]) h.length=o:=by rw[qO,if_neg (by omega)];simp[aj]
theorem JV {own:Own}{h:List Ob}{a:Act}{w:World}{t:List (Nat×SV)}(hr:StRel F w0 N own ⟨t,h⟩ a w)(o:Ob)(ho:(∃ k,o=.row k [])∨∃ k,o=.grid k []):
  ∃ own',StRel F w0 N own' ⟨t,h++[o]⟩ a w∧(∀ id hd,own id=some hd→own' id=some hd)∧own' h.length=some { v:=.slice none 0 0}:=by
 let own':Own:=fun id=>if id=h.length then some { v:=.slice none 0 0}else own id
 have hsub:∀ id hd,own id=some hd→own' id=some hd:=fun id hd e=>by
  have:id≠h.length:=by have:=hr.hp.dom id hd e;simp only at this;omega
  simp only[own',if_neg this];exact e
 have hinv:∀ id hd b,own' id=some hd→b∈hd.bs→own id=some hd:=fun id hd b e hb=>by
  by_cases hi:id=h.length
  ·simp only[own',if_pos hi,Option.some.injEq]at e;subst e;cases hb
  ·simpa only[own',if_neg hi]using e
 have hc:Carries F own w F own' w:=⟨fun id hd e=>⟨hd,hsub id hd e,.refl _⟩,fun b _ hn=>⟨by
  rintro (hf| ⟨id,hd,e,hb⟩)
  ·exact hn (.inl hf)
  ·exact hn (.inr ⟨id,hd,hinv id hd b e hb,hb⟩),rfl⟩⟩
 refine⟨own',⟨hr.size,hr.defers,⟨fun id hd e=>?_,hr.hp.foreign,fun id hd b e hb=>hr.hp.apart id hd b (hinv id hd b e hb) hb,fun i j hi hj b e1 e2 b1 b2=>hr.hp.inj i j hi hj b (hinv i hi b e1 b1) (hinv j hj b e2 b2) b1 b2,fun id hd b e hb=>hr.hp.lt id hd b (hinv id hd b e hb) hb,fun id hd=>?_⟩,
  ⟨fun id hd e=>?_,fun id hd b e hb=>hr.fr.base id hd b (hinv id hd b e hb) hb,hr.fr.os,hr.fr.tape,hr.fr.output,hr.fr.size,hr.fr.block⟩,fun t=>(hr.slots t).carry hc⟩,hsub,by simp[own']⟩
 ·simp only[List.length_append,List.length_cons,List.length_nil];by_cases hi:id=h.length
  ·omega
  ·simp only[own',if_neg hi]at e;have:=hr.hp.dom id hd e;simp only at this;omega
 ·simp only at hd ⊢;by_cases hi:id<h.length
  ·rw[qO,if_pos hi]at hd ⊢;obtain⟨hd',e1,e2⟩:=hr.hp.obs id hd;exact⟨hd',hsub id hd' e1,e2.carry hc (Nat.le_refl _) fun _ _=>rfl⟩
  ·by_cases hi2:id=h.length
   ·subst hi2;rw[DR];refine⟨_,by simp[own'];rfl,?_⟩;rcases ho with⟨k,rfl⟩ | ⟨k,rfl⟩
    ·exact .inl ⟨none,rfl,rfl,rfl⟩
    ·exact .inl ⟨rfl,rfl,rfl,rfl⟩
   ·rw[qN (by simp;omega)]at hd;cases hd
 ·obtain⟨hd',e1,e2⟩:=hr.fr.ids id hd e;exact⟨hd',hsub id hd' e1,e2⟩
theorem NB {own:Own}{h:List Ob}{a:Act}{w:World}{t:List (Nat×SV)}(hr:StRel F w0 N own ⟨t,h⟩ a w)(k:Tag)(ad:Option Addr):
  ∃ own',StRel F w0 N own' ⟨t,h++[.row k []]⟩ a w∧(∀ id hd,own id=some hd→own' id=some hd)∧own' h.length=some { v:=.slice ad 0 0}:=by
 let own':Own:=fun id=>if id=h.length then some { v:=.slice ad 0 0}else own id
 have hsub:∀ id hd,own id=some hd→own' id=some hd:=fun id hd e=>by
  have:id≠h.length:=by have:=hr.hp.dom id hd e;simp only at this;omega
  simp only[own',if_neg this];exact e
 have hinv:∀ id hd b,own' id=some hd→b∈hd.bs→own id=some hd:=fun id hd b e hb=>by
  by_cases hi:id=h.length
  ·simp only[own',if_pos hi,Option.some.injEq]at e;subst e;cases hb
  ·simpa only[own',if_neg hi]using e
 have hc:Carries F own w F own' w:=⟨fun id hd e=>⟨hd,hsub id hd e,.refl _⟩,fun b _ hn=>⟨by
  rintro (hf| ⟨id,hd,e,hb⟩)
  ·exact hn (.inl hf)
  ·exact hn (.inr ⟨id,hd,hinv id hd b e hb,hb⟩),rfl⟩⟩
 refine⟨own',⟨hr.size,hr.defers,⟨fun id hd e=>?_,hr.hp.foreign,fun id hd b e hb=>hr.hp.apart id hd b (hinv id hd b e hb) hb,fun i j hi hj b e1 e2 b1 b2=>hr.hp.inj i j hi hj b (hinv i hi b e1 b1) (hinv j hj b e2 b2) b1 b2,fun id hd b e hb=>hr.hp.lt id hd b (hinv id hd b e hb) hb,fun id hd=>?_⟩,
  ⟨fun id hd e=>?_,fun id hd b e hb=>hr.fr.base id hd b (hinv id hd b e hb) hb,hr.fr.os,hr.fr.tape,hr.fr.output,hr.fr.size,hr.fr.block⟩,fun t=>(hr.slots t).carry hc⟩,hsub,by simp[own']⟩
 ·simp only[List.length_append,List.length_cons,List.length_nil];by_cases hi:id=h.length
  ·omega
  ·simp only[own',if_neg hi]at e;have:=hr.hp.dom id hd e;simp only at this;omega
 ·simp only at hd ⊢;by_cases hi:id<h.length
  ·rw[qO,if_pos hi]at hd ⊢;obtain⟨hd',e1,e2⟩:=hr.hp.obs id hd;exact⟨hd',hsub id hd' e1,e2.carry hc (Nat.le_refl _) fun _ _=>rfl⟩
  ·by_cases hi2:id=h.length
   ·subst hi2;rw[DR];refine⟨_,by simp[own'];rfl,?_⟩;exact .inl ⟨ad,rfl,rfl,rfl⟩
   ·rw[qN (by simp;omega)]at hd;cases hd
 ·obtain⟨hd',e1,e2⟩:=hr.fr.ids id hd e;exact⟨hd',hsub id hd' e1,e2⟩
theorem NilS.rel {st st':St}(hn:NilS st st'){own:Own}{a:Act}{w:World}(hr:StRel F w0 N own st a w):∃ own',StRel F w0 N own' st' a w:=by
 induction hn with
 |refl=>exact⟨own,hr⟩
 | @slot t h i o _ hl ho ih=>
  obtain⟨own1,h1⟩:=ih;obtain⟨own2,h2,h3,h4⟩:=JV h1 o ho;refine⟨own2,h2.size,h2.defers,h2.hp,h2.fr,fun u=>?_⟩;rw[ov];split
  ·rename_i e;subst e;have:=h1.slots i;rw[hl]at this;rw[br this];exact .os (hd:= { v:=.slice none 0 0}) h4 rfl
  ·exact h2.slots u
 | @slotE t h i k _ hl ih=>
  obtain⟨own1,h1⟩:=ih;have hs:=h1.slots i;rw[hl]at hs;generalize hv:a.tmps.getD i undef=v at hs;cases hs with
  | @e0 ad=>
   obtain⟨own2,h2,h3,h4⟩:=NB h1 k ad;refine⟨own2,h2.size,h2.defers,h2.hp,h2.fr,fun u=>?_⟩;rw[ov];split
   ·rename_i e;subst e;rw[hv];exact .os (hd:= { v:=.slice ad 0 0}) h4 rfl
   ·exact h2.slots u
 | @cell t h i j l o _ hc hl ho ih=>
  obtain⟨own1,h1⟩:=ih;obtain⟨own2,h2,h3,h4⟩:=JV h1 o ho;have hlt:i<h.length:=by
   rcases Nat.lt_or_ge i h.length with h'|h'
   ·exact h'
   ·rw[qN h']at hc;cases hc
  have hlen:(bf h i (.cells (l.set j (.os h.length)))).length=h.length:=by rw[bJ,if_pos hlt]
  refine⟨own2,h2.size,h2.defers,⟨fun id hd e=>?_,h2.hp.foreign,h2.hp.apart,h2.hp.inj,h2.hp.lt,fun id hd=>?_⟩,h2.fr,h2.slots⟩
  ·have:=h2.hp.dom id hd e;simp only[List.length_append]at this ⊢;rw[hlen];exact this
  ·simp only at hd ⊢;have hob:=h2.hp.obs id;simp only at hob;by_cases hi:id<h.length
   ·rw[qO,if_pos (by rw[hlen];exact hi)]at hd ⊢;rw[qO,if_pos hi]at hob;rw[cG]at hd ⊢;by_cases hii:i=id
    ·subst hii;rw[if_pos rfl]at hd ⊢;rw[hc]at hob;obtain⟨hd',e1,b,cs,ty,m1,m2,m3,m4,m5⟩:=hob rfl;refine⟨hd',e1,b,cs,ty,m1,m2,m3,by simpa using m4,fun j' s hs=>?_⟩;rw[List.getElem?_set]at hs;by_cases hj:j=j'
     ·subst hj;rw[if_pos rfl]at hs;split at hs
      ·cases hs;have:=m5 j _ hl;rw[br this];exact .os (hd:= { v:=.slice none 0 0}) h4 rfl
      ·cases hs
     ·rw[if_neg hj]at hs;exact m5 j' s hs
    ·rw[if_neg hii]at hd ⊢;exact hob hd
   ·rw[qO,if_neg (by rw[hlen];exact hi),hlen]at hd ⊢;rw[qO,if_neg hi]at hob;exact hob hd
end
section
variable {P:Program}{F:Nat→Prop}{w0:Bs}{ro:Option Nat}{nd:Nat}{ts:Tis}{G:Cons}{L:uk}{N:Nat}
theorem uB {ts:Tis}{G:Cons}{ro:Option Nat}{N:Nat}(hm:P.follows .mixedOrders=true)(hts:ts.ok P)(hG:ConsOk P G){id:Nat}{c:Code}(hc:bO N c=true){C:St→Option LCon}
  (h:∀ st lc,C st=some lc→lc.pre→∃ (σ:Type) (D:σ→St) (I:σ→Prop) (m:σ→Nat) (x0:σ) (stN:St) (js:List Nat),I x0∧NilS st stN∧st.h.length≤(D x0).h.length∧Sub js st.h.length stN (D x0)∧
   ∀ x,I x→∃ L Qx,am P ro N L c∧(∀ e st',Qx e st'→uY D I m st.h.length x id (fun e st'=>∃ r js,lc.post r∧lc.ex r=e∧st.h.length≤(lc.out r).h.length∧Sub js st.h.length st' (lc.out r)) e st')∧exec ts G L c (D x) Qx):kG P ro N id (.loop c) C:=by
 intro nd F w0 st lc hC hpre own a w hr;obtain⟨σ,D,I,m,x0,stN,js,h1,hN,h2,h3,h4⟩:=h st lc hC hpre;obtain⟨ownN,hrN⟩:=hN.rel hr;refine wpIn_mono (DL hm hts hG hc D I m st.h.length hr.base_lt _ h4 x0 h1 _ a w (hrN.sub h3 hr.base_lt h2)) ?_;intro e a' w' hq;have key:∀ ex F1 own' st',StRel F1 w0 N own' st' a' w'→(∃ r js,lc.post r∧lc.ex r=ex∧st.h.length≤(lc.out r).h.length∧Sub js st.h.length st' (lc.out r))→∃ own2 st2,StRel F1 w0 N own2 st2 a' w'∧∃ r,lc.post r∧ex=lc.ex r∧st2=lc.out r:=by
  rintro ex F1 own' st' hst ⟨r,js,q1,q2,q3,q4⟩;exact⟨_,_,hst.sub q4 hr.base_lt q3,r,q1,q2.symm,rfl⟩
 cases e with
 |normal=>obtain⟨F1,own',st',h0,k1,k2⟩:=hq;obtain⟨own2,st2,q1,q2⟩:=key _ F1 own' st' k1 k2;exact⟨F1,own2,st2,h0,q1,q2⟩
 |exit j=>obtain⟨F1,own',st',h0,k1,k2⟩:=hq;obtain⟨own2,st2,q1,q2⟩:=key _ F1 own' st' k1 k2;exact⟨F1,own2,st2,h0,q1,q2⟩
 |ret=>obtain⟨F1,own',st',h0,k1,k2⟩:=hq;obtain⟨own2,st2,q1,q2⟩:=key _ F1 own' st' k1 k2;exact⟨F1,own2,st2,h0,q1,q2⟩
 |panic ch=>
  obtain⟨x,F1,own',st',h0,k1,k2,k3⟩:=hq;obtain⟨own2,st2,q1,q2⟩:=key _ F1 own' st' k1 k2;exact⟨x,F1,own2,st2,h0,q1,q2,k3⟩
 |_=>exact hq.elim
end
section
variable {P:Program}{ρ σ:Type}
def i9 (st2:St)(n0:Nat)(st:St):Prop:= ∃ js,n0≤st2.h.length∧Sub js n0 st st2
theorem E0 {st2 st:St}{n0:Nat}(js:List Nat)(h1:n0≤st2.h.length)(h2:Sub js n0 st st2):i9 st2 n0 st:=⟨js,h1,h2⟩
def uC (D:Nat→σ→St)(n0 k:Nat)(st:St):ρ⊕σ→Prop
 | .inl _=>False
 | .inr s'=>i9 (D (k+1) s') n0 st
def nY (exE:ρ→Ex)(outE:ρ→St)(n0:Nat)(e:Ex)(st:St):ρ⊕σ→Prop
 | .inl x=>exE x=e∧i9 (outE x) n0 st
 | .inr _=>False
def cE (step:Nat→σ→ρ⊕σ)(n:Nat)(exE:ρ→Ex)(outE:ρ→St)(outN:σ→St)(D:Nat→σ→St)(n0 id k:Nat)(s:σ):Ex→St→Prop
 | .normal,st=>k<n∧uC D n0 k st (step k s)
 | .exit j,st=>bif Nat.beq j id then(n≤k→i9 (outN s) n0 st)∧(k<n→nY exE outE n0 .normal st (step k s))else k<n∧nY exE outE n0 (.exit j) st (step k s)
 | .ret,st=>k<n∧nY exE outE n0 .ret st (step k s)
 | .pan x,st=>k<n∧nY exE outE n0 (.pan x) st (step k s)
variable {step:Nat→σ→ρ⊕σ}{n n0 id k j:Nat}{exE:ρ→Ex}{outE:ρ→St}{outN:σ→St}{D:Nat→σ→St}{s s':σ}{st:St}{x:Value}{e:Ex}{y:ρ}
@[go_sem] theorem V_:uC (ρ:=ρ) D n0 k st (.inr s')=i9 (D (k+1) s') n0 st:=(rfl)
@[go_sem] theorem XX:nY (σ:=σ) exE outE n0 e st (.inl y)=(exE y=e∧i9 (outE y) n0 st):=(rfl)
@[go_sem] theorem Wa:cE step n exE outE outN D n0 id k s .normal st=(k<n∧uC D n0 k st (step k s)):=(rfl)
@[go_sem] theorem Z3:cE step n exE outE outN D n0 id k s (.exit j) st=bif Nat.beq j id then(n≤k→i9 (outN s) n0 st)∧(k<n→nY exE outE n0 .normal st (step k s))else k<n∧nY exE outE n0 (.exit j) st (step k s):=(rfl)
@[go_sem] theorem aa7:cE step n exE outE outN D n0 id k s .ret st=(k<n∧nY exE outE n0 .ret st (step k s)):=(rfl)
@[go_sem] theorem aa8:cE step n exE outE outN D n0 id k s (.pan x) st=(k<n∧nY exE outE n0 (.pan x) st (step k s)):=(rfl)
@[congr] theorem R4 {r r':ρ⊕σ}(h:r=r'):uC D n0 k st r=uC D n0 k st r':=by rw[h]
@[congr] theorem XY {st st':St}{e e':Ex}(h:st=st')(he:e=e'):cE step n exE outE outN D n0 id k s e st=cE step n exE outE outN D n0 id k s e' st':=by rw[h,he]
theorem Lg {ts:Tis}{G:Cons}{ro:Option Nat}{N:Nat}(hm:P.follows .mixedOrders=true)(hts:ts.ok P)(hG:ConsOk P G){id:Nat}{c:Code}(hc:bO N c=true){C:St→Option LCon}
  (h:∀ st lc,C st=some lc→lc.pre→∃ (ρ σ:Type) (pre:Prop) (step:Nat→σ→ρ⊕σ) (p:Nat→σ→Prop) (n:Nat) (s0:σ) (exE:ρ→Ex) (outE:ρ→St) (outN:σ→St) (D:Nat→σ→St) (stN:St) (js:List Nat),
   lc=LC pre (aq step n 0 s0) exE outE outN∧okI step p n 0 s0∧NilS st stN∧st.h.length≤(D 0 s0).h.length∧Sub js st.h.length stN (D 0 s0)∧
   ∀ k s,k≤n→(k<n→p k s)→∃ L,am P ro N L c∧exec ts G L c (D k s) (cE step n exE outE outN D st.h.length id k s)):kG P ro N id (.loop c) C:=by
 refine uB hm hts hG hc fun st lc hC hp=>?_;obtain⟨ρ,σ,pre,step,p,n,s0,exE,outE,outN,D,stN,js,rfl,h1,hN,h2,h3,h4⟩:=h st lc hC hp;refine⟨Nat×σ,fun x=>D x.1 x.2,fun x=>x.1≤n∧okI step p (n - x.1) x.1 x.2∧aq step (n - x.1) x.1 x.2=aq step n 0 s0,fun x=>n - x.1,(0,s0),stN,js,⟨Nat.zero_le _,by simpa using h1,by simp⟩,hN,h2,h3,?_⟩;rintro⟨k,s⟩ ⟨hk,hJ,hrun⟩;simp only at hk hJ hrun;obtain⟨L,hl,hex⟩:=h4 k s hk (fun hlt=>by
  rw[show n - k=(n - k - 1)+1 by omega]at hJ;exact hJ.1)
 refine⟨L,_,hl,?_,hex⟩;have hfin:∀ e st',k<n→nY exE outE st.h.length e st' (step k s)→∃ r js,(LC pre (aq step n 0 s0) exE outE outN).post r∧(LC pre (aq step n 0 s0) exE outE outN).ex r=e∧st.h.length≤((LC pre (aq step n 0 s0) exE outE outN).out r).h.length∧Sub js st.h.length st' ((LC pre (aq step n 0 s0) exE outE outN).out r):=by
  intro e st' hlt q;cases hs:step k s with
  |inr s'=>rw[hs]at q;exact q.elim
  |inl x=>
   rw[hs]at q;obtain⟨q2,js,q3,q4⟩:=q;rw[show n - k=(n - k - 1)+1 by omega]at hrun;simp only[aq,hs]at hrun;exact⟨.inl x,js,hrun,q2,q3,q4⟩
 intro e st' hq;cases e with
 |normal=>
  obtain⟨q1,q2⟩:=hq;cases hs:step k s with
  |inl x=>rw[hs]at q2;exact q2.elim
  |inr s'=>
   rw[hs]at q2;obtain⟨js,q3,q4⟩:=q2;rw[show n - k=(n - (k+1))+1 by omega]at hrun hJ;simp only[aq,hs]at hrun;exact⟨(k+1,s'),js,⟨q1,hJ.2 s' hs,hrun⟩,by simp only;omega,q3,q4⟩
 |exit j=>
  have hq':(bif Nat.beq j id then(n≤k→i9 (outN s) st.h.length st')∧(k<n→nY exE outE st.h.length .normal st' (step k s))else k<n∧nY exE outE st.h.length (.exit j) st' (step k s)):=hq;show bif Nat.beq j id then _ else _;cases hb:Nat.beq j id with
  |true=>
   rw[hb]at hq';simp only[cond_true]at hq' ⊢;by_cases hlt:k<n
   ·exact hfin _ _ hlt (hq'.2 hlt)
   ·obtain⟨js,q3,q4⟩:=hq'.1 (by omega);have hkn:k=n:=by omega
    subst hkn;simp only[Nat.sub_self,aq]at hrun;exact⟨.inr s,js,hrun,rfl,q3,q4⟩
  |false=>rw[hb]at hq';exact hfin _ _ hq'.1 hq'.2
 |ret=>exact hfin _ _ hq.1 hq.2
 |pan x=>exact hfin _ _ hq.1 hq.2
end
def ik (p:Prop)(S:SV)(H:List Ob):HCon:= { α:=Unit,pre:=p,post:=fun _=>True,res:=fun _=>.ret S H}
def Iz (n0:Nat)(S:SV)(H:List Ob)(h:List Ob):Option SV→Prop
 |some s=>i9 ⟨[(0,S)],H⟩ n0 ⟨[(0,s)],h⟩
 |none=>False
def NC (n0:Nat)(rs:List ResultVar)(ts:Tis)(S:SV)(H:List Ob):Ex→St→Prop
 | .exit _,_=>False
 | .normal,st=>Iz n0 S H st.h (ku (ju ts st rs))
 | .ret,st=>Iz n0 S H st.h (ku (ju ts st rs))
 | .pan _,_=>False
section
variable {P:Program}{ts:Tis}{G:Cons}{n0:Nat}{S s:SV}{H h:List Ob}{rs:List ResultVar}{st:St}{x:Value}{j:Nat}
@[go_sem] theorem Wb:Iz n0 S H h (some s)=i9 ⟨[(0,S)],H⟩ n0 ⟨[(0,s)],h⟩:=(rfl)
@[go_sem] theorem QI:NC n0 rs ts S H .normal st=Iz n0 S H st.h (ku (ju ts st rs)):=(rfl)
@[go_sem] theorem Wc:NC n0 rs ts S H .ret st=Iz n0 S H st.h (ku (ju ts st rs)):=(rfl)
@[go_sem high] theorem TW {p:Prop}{ids:List Nat}{d:Option Nat}{K:St→Prop}{Z:Value→St→Prop}:yA ids d st K Z (some (ik p S H))=(p∧HK ids d st K Z (.ret S H)):=by
 show(p∧∀ r:Unit,True→HK ids d st K Z (.ret S H))=_;simp
@[go_sem high] theorem R5 {p:Prop}{ids:List Nat}{ops:List Oper}{g:Nat×Bool}{d:Nat}{t:List (Nat×SV)}{h':List Ob}{K:St→Prop}{Z:Value→St→Prop}:v_ ids ops g (some d) ⟨t,h'⟩ K Z (some (ik p S H))=((cV ops t ops.length g→p∧FP ids g (some d) ⟨t,h'⟩ K Z (.ret S H))∧(f6 ops t ops.length g→K ⟨(d,.gd g.1 g.2 .any)::t,h'⟩)):=by
 show((cV ops t ops.length g→p∧∀ r:Unit,True→FP ids g (some d) ⟨t,h'⟩ K Z (.ret S H))∧_)=_;simp only[true_imp_iff,forall_const];rfl
def hCR (t:Tag)(k:List t.T→Option HCon):List Ob→Option HCon
 | [.cells [.os 1],.row k' l] =>if h:k'=t then k (h▸l)else none
 |_=>none
open Classical in
noncomputable def pQ {α:Type 1}(X:SV)(k:List SV→Option α):List SV→Option α
 |s::r=>if s=X then k r else none
 | [] =>none
@[go_sem] theorem pQ_mk {α:Type 1}{X:SV}{k:List SV→Option α}{r:List SV}:pQ X k (X::r)=k r:=by simp[pQ]
theorem TX {α:Type 1}{X:SV}{k:List SV→Option α}{l:List SV}{c:α}(h:pQ X k l=some c):∃ r,l=X::r∧k r=some c:=by
 unfold pQ at h;split at h
 ·split at h
  ·rename_i e;subst e;exact⟨_,rfl,h⟩
  ·cases h
 ·cases h
def pXR {α:Type 1}(t:Tag)(k:List t.T→List SV→Option α):List SV→Option α
 | .ep [.rs k' l] 0::r=>DO t k r k' l
 |_=>none
@[go_sem] theorem aa9 {α:Type 1}{t:Tag}{k:List t.T→List SV→Option α}{l:List t.T}{r:List SV}:pXR t k (.ep [.rs t l] 0::r)=k l r:=by simp[pXR,DO]
theorem QJ {α:Type 1}{t:Tag}{k:List t.T→List SV→Option α}{l:List SV}{c:α}(h:pXR t k l=some c):∃ x r,l=.ep [.rs t x] 0::r∧k x r=some c:=by
 unfold pXR at h;split at h
 ·rename_i k' l' r;unfold DO at h;split at h
  ·rename_i e;subst e;exact⟨_,_,rfl,h⟩
  ·cases h
 ·cases h
theorem pd (hm:P.follows .mixedOrders=true) (hts:ts.ok P) (hG:ConsOk P G) {f:FuncId} {fn:Func} {c:Code} (hf:P.funcs[f]? =some fn) (hb:fn.body=some c) (hname:(fn.name== "runtime.NumGoroutine")=false)
  (hc:bO fn.ntmps c=true) {C:List SV→List Ob→Option HCon}
  (h:∀ l o con,C l o=some con→∃ p S H,con=ik p S H∧(p→l.length≤fn.ntmps∧∃ L,am P none fn.ntmps L c∧exec ts G L c ⟨lf 0 l,o⟩ (NC o.length fn.results.toList ts S H))):FnOkO P f C:=by
 refine B3 hm hts hG hf hb hname hc fun l o con hC hp=>?_;obtain⟨p,S,H,rfl,h2⟩:=h l o con hC;obtain⟨h3,L,h4,h5⟩:=h2 hp;refine⟨h3,L,_,h4,fun e st hq=>?_,h5⟩;cases e with
 |normal=>
  change Iz _ _ _ _ _ at hq;show yB _ _ _ _;cases hs:ku (ju ts st fn.results.toList)with
  |none=>rw[hs]at hq;exact hq.elim
  |some s=>rw[hs]at hq;obtain⟨js,q1,q2⟩:=hq;exact⟨(),S,H,js,trivial,rfl,q1,q2⟩
 |ret=>
  change Iz _ _ _ _ _ at hq;show yB _ _ _ _;cases hs:ku (ju ts st fn.results.toList)with
  |none=>rw[hs]at hq;exact hq.elim
  |some s=>rw[hs]at hq;obtain⟨js,q1,q2⟩:=hq;exact⟨(),S,H,js,trivial,rfl,q1,q2⟩
 |exit j=>exact hq.elim
 |pan x=>exact hq.elim
end
end Go.Sx
end
section
namespace Go.Sx
attribute [go_sem] true_imp_iff false_imp_iff Bool.false_eq_true Int.toNat_natCast Int.toNat_zero true_and and_true and_self implies_true forall_const
theorem cl {p:Prop}(h:p:=by(first|done|(repeat' (first|with_reducible refine And.intro ?_ ?_|((with_reducible show _≠_);first|assumption|omega|(simp_all [dL,fD];done) |grind) |with_reducible intro _)) <;>(first|done|with_reducible exact Empty.elim ‹Empty› |with_reducible assumption|rfl|omega|assumption|(simp only[*,cond_true,cond_false,Bool.not_true,Bool.not_false,go_sem,Nat.reduceBEq,Nat.reduceLeDiff,Nat.reduceAdd,Nat.reduceSub,Nat.reduceMul,Int.reduceLE,Int.reduceLT,Int.reduceToNat,Int.reduceNeg,reduceCtorEq];done) |(simp only[*,cond_true,cond_false,Bool.not_true,Bool.not_false,go_sem,Nat.reduceBEq,Nat.reduceLeDiff,Nat.reduceAdd,Nat.reduceSub,Nat.reduceMul,Int.reduceLE,Int.reduceLT,Int.reduceToNat,Int.reduceNeg,reduceCtorEq];(repeat' (first|with_reducible refine And.intro ?_ ?_|((with_reducible show _≠_);first|assumption|omega|(simp_all [dL,fD];done) |grind) |with_reducible intro _)) <;>(first|done|assumption|rfl|omega|(simp_all [dL,fD];done))) |(simp_all [okI,dL,fD];done) |grind))):p:=h
theorem cl2 {p:Prop}(h:p:=by(first|done|(repeat' (first|with_reducible refine And.intro ?_ ?_|((with_reducible show _≠_);first|assumption|omega|(simp_all [dL,fD];done) |grind) |with_reducible intro _)) <;>(first|done|with_reducible exact Empty.elim ‹Empty› |with_reducible assumption|rfl|omega|assumption|(simp only[*,go_sem,Nat.reduceBEq,Nat.reduceLeDiff,Nat.reduceAdd,Nat.reduceSub,Nat.reduceMul,Int.reduceLE,Int.reduceLT,Int.reduceToNat,Int.reduceNeg,reduceCtorEq];done) |(simp_all [dL,fD];done)))):p:=h
inductive JL:List Nat→Prop
 |mk (l:List Nat):JL l
theorem jl (l:List Nat):JL l:=.mk l
theorem fk {st2 st:St}{n0:Nat}{js:List Nat}(_:JL js)(h1:n0≤st2.h.length:=by(first|(show _≤_;decide) |(simp only[*,go_sem,Nat.reduceBEq,Nat.reduceLeDiff,Nat.reduceAdd,Nat.reduceSub,Nat.reduceMul,Int.reduceLE,Int.reduceLT,Int.reduceToNat,Int.reduceNeg,reduceCtorEq];done) |(simp only[*,go_sem,Nat.reduceBEq,Nat.reduceLeDiff,Nat.reduceAdd,Nat.reduceSub,Nat.reduceMul,Int.reduceLE,Int.reduceLT,Int.reduceToNat,Int.reduceNeg,reduceCtorEq];(repeat' (first|with_reducible refine And.intro ?_ ?_|((with_reducible show _≠_);first|assumption|omega|(simp_all [dL,fD];done) |grind) |with_reducible intro _)) <;>(first|rfl|decide|assumption|omega|(simp_all [dL,fD];done)))))(h2:Sub js n0 st st2:=by(first|(show _≤_;decide) |(simp only[*,go_sem,Nat.reduceBEq,Nat.reduceLeDiff,Nat.reduceAdd,Nat.reduceSub,Nat.reduceMul,Int.reduceLE,Int.reduceLT,Int.reduceToNat,Int.reduceNeg,reduceCtorEq];done) |(simp only[*,go_sem,Nat.reduceBEq,Nat.reduceLeDiff,Nat.reduceAdd,Nat.reduceSub,Nat.reduceMul,Int.reduceLE,Int.reduceLT,Int.reduceToNat,Int.reduceNeg,reduceCtorEq];(repeat' (first|with_reducible refine And.intro ?_ ?_|((with_reducible show _≠_);first|assumption|omega|(simp_all [dL,fD];done) |grind) |with_reducible intro _)) <;>(first|rfl|decide|assumption|omega|(simp_all [dL,fD];done))))):i9 st2 n0 st:=E0 js h1 h2
theorem fk2 {st2 st:St}{n0:Nat}{js:List Nat}(_:JL js)(h1:n0≤st2.h.length:=by(first|(show _≤_;decide) |(simp only[go_sem,Nat.reduceBEq,Nat.reduceLeDiff,Nat.reduceAdd,Nat.reduceSub,Nat.reduceMul,Int.reduceLE,Int.reduceLT,Int.reduceToNat,Int.reduceNeg,reduceCtorEq];(repeat' (first|with_reducible refine And.intro ?_ ?_|((with_reducible show _≠_);first|assumption|omega|(simp_all [dL,fD];done) |grind) |with_reducible intro _)) <;>(first|rfl|decide|assumption|omega|(simp_all [dL,fD];done)))))(h2:Sub js n0 st st2:=by(first|(show _≤_;decide) |(simp only[go_sem,Nat.reduceBEq,Nat.reduceLeDiff,Nat.reduceAdd,Nat.reduceSub,Nat.reduceMul,Int.reduceLE,Int.reduceLT,Int.reduceToNat,Int.reduceNeg,reduceCtorEq];(repeat' (first|with_reducible refine And.intro ?_ ?_|((with_reducible show _≠_);first|assumption|omega|(simp_all [dL,fD];done) |grind) |with_reducible intro _)) <;>(first|rfl|decide|assumption|omega|(simp_all [dL,fD];done))))):i9 st2 n0 st:=E0 js h1 h2
theorem cg0 {α:Type _}{p:α→Prop}:∀ x∈([]:List α),p x:=fun _ h=>by cases h
theorem cgc {α:Type _}{p:α→Prop}{a:α}{l:List α}(h:p a)(t:∀ x∈l,p x):∀ x∈a::l,p x:=fun x hx=>by
 rcases List.mem_cons.1 hx with rfl|hx
 ·exact h
 ·exact t x hx
attribute [go_sem] if_true
end Go.Sx
end
section
namespace Go.Sx
open Go.RowKit
open IntKind (i64)
section
variable {P:Program}
end
def okL {ρ σ τ:Type}(step:τ→σ→ρ⊕σ)(p:τ→σ→Prop):List τ→σ→Prop
 | [],_=>True
 |x::l,s=>p x s∧∀ s',step x s=.inr s'→okL step p l s'
theorem E1 {ρ σ τ:Type}{step:τ→σ→ρ⊕σ}{p:τ→σ→Prop}:∀ (l:List τ) (s:σ),(∀ x∈l,∀ s,p x s)→okL step p l s
 | [],_,_=>trivial
 |x::l,s,h=>⟨h x (by simp) s,fun s' _=>E1 l s' fun y hy=>h y (by simp[hy])⟩
section
variable {ρ σ τ:Type}
def rgN (T:List (Nat×SV))(H:σ→List Ob)(n0:Nat)(st:St):ρ⊕σ→Prop
 | .inl _=>False
 | .inr s'=>i9 ⟨T,H s'⟩ n0 ⟨T,st.h⟩
def rgX (exE:ρ→Ex)(T:List (Nat×SV))(Hy:ρ→List Ob)(n0:Nat)(e:Ex)(st:St):ρ⊕σ→Prop
 | .inl y=>exE y=e∧i9 ⟨T,Hy y⟩ n0 ⟨T,st.h⟩
 | .inr _=>False
def rgQ (step:τ→σ→ρ⊕σ)(exE:ρ→Ex)(T:List (Nat×SV))(H:σ→List Ob)(Hy:ρ→List Ob)(n0 id:Nat)(x:τ)(s:σ):Ex→St→Prop
 | .normal,st=>rgN T H n0 st (step x s)
 | .exit j,st=>rgX exE T Hy n0 (bif Nat.beq j id then .normal else .exit j) st (step x s)
 | .ret,st=>rgX exE T Hy n0 .ret st (step x s)
 | .pan _,_=>False
variable {step:τ→σ→ρ⊕σ}{exE:ρ→Ex}{T:List (Nat×SV)}{H:σ→List Ob}{Hy:ρ→List Ob}{n0 id j:Nat}{x:τ}{s s':σ}{y:ρ}{st:St}{e:Ex}
@[go_sem] theorem Z4:rgN (ρ:=ρ) T H n0 st (.inr s')=i9 ⟨T,H s'⟩ n0 ⟨T,st.h⟩:=(rfl)
@[go_sem] theorem Z5:rgX (σ:=σ) exE T Hy n0 e st (.inl y)=(exE y=e∧i9 ⟨T,Hy y⟩ n0 ⟨T,st.h⟩):=(rfl)
@[go_sem] theorem TY:rgQ step exE T H Hy n0 id x s .normal st=rgN T H n0 st (step x s):=(rfl)
@[go_sem] theorem Z6:rgQ step exE T H Hy n0 id x s .ret st=rgX exE T Hy n0 .ret st (step x s):=(rfl)
@[go_sem] theorem XZ:rgQ step exE T H Hy n0 id x s (.exit j) st=rgX exE T Hy n0 (bif Nat.beq j id then .normal else .exit j) st (step x s):=(rfl)
@[congr] theorem Wd {r r':ρ⊕σ}(h:r=r'):rgN T H n0 st r=rgN T H n0 st r':=by rw[h]
@[congr] theorem We {r r':ρ⊕σ}{e e':Ex}(h:r=r')(he:e=e'):rgX exE T Hy n0 e st r=rgX exE T Hy n0 e' st r':=by rw[h,he]
end
section
variable {P:Program}{ts:Tis}{G:Cons}{N:Nat}
theorem zJ (hm:P.follows .mixedOrders=true)(hts:ts.ok P)(hG:ConsOk P G){id:Nat}{g:Operand}{ps:Array Tmp}{assign body:Code}{C:St→Option LCon}
  (hpn:ps.toList.Nodup) (hpN:∀ p∈ps.toList,p<N) (hca:bO N assign=true) (hcb:bO N body=true)
  (h:∀ st lc,C st=some lc→lc.pre→∃ (f:FuncId) (caps:List SV) (τ ρ σ:Type) (l:List τ) (mk:τ→List SV) (step:τ→σ→ρ⊕σ) (p:τ→σ→Prop) (pre:Prop) (s0:σ) (exE:ρ→Ex) (outE:ρ→St) (outN:σ→St) (T:List (Nat×SV)) (H:σ→List Ob) (Hy:ρ→List Ob) (js:List Nat),
   raw st.t g=.fn f [] caps∧lc=LC pre (gD step l s0) exE outE outN∧okL step p l s0∧st.h.length≤(H s0).length∧Sub js st.h.length ⟨st.t,wu (ox st caps) st.h⟩ ⟨T,H s0⟩∧
   GC P f (fun y=>y::caps.map (ren (Ix (ox st caps)) 3)) (GF (ox st caps) st.h) (l.map mk)∧
   (∀ x s,p x s→(mk x).length=ps.size∧∃ L,(∀ l,am P (some l) N L assign)∧(∀ l,am P (some l) N L body)∧exec ts G L assign ⟨psT ps.toList (mk x)++T,H s⟩ (fun e st1=>e=.normal∧exec ts G L body st1 (rgQ step exE T H Hy st.h.length id x s)))∧
   (∀ s,i9 (outN s) st.h.length ⟨T,H s⟩)∧∀ y,i9 (outE y) st.h.length ⟨T,Hy y⟩):kG P none N id (.rangeFunc g ps assign body) C:=by
 refine GG hm hts hG hpn hpN hca hcb fun st lc hC hp=>?_;obtain⟨f,caps,τ,ρ,σ,l,mk,step,p,pre,s0,exE,outE,outN,T,H,Hy,js,h1,rfl,h2,h3,h4,h5,h6,h7,h8⟩:=h st lc hC hp;refine⟨f,caps,l.map mk,σ⊕ρ,T,fun z=>match z with| .inl s=>H s| .inr y=>Hy y,fun k z=>match z with| .inl s=>gD step (l.drop k) s=gD step l s0∧okL step p (l.drop k) s| .inr _=>False,
  fun e z=>match z with| .inl _=>False| .inr y=>gD step l s0=.inl y∧(match e with| .ret=>exE y=.ret| .exit j=>exE y=(bif Nat.beq j id then .normal else .exit j) |_=>False),.inl s0,js,h1,⟨rfl,h2⟩,h3,h4,h5,?_,?_,?_,?_⟩
 ·rintro k z args hk hI;cases z with
  |inr y=>exact hI.elim
  |inl s=>
   obtain⟨hrun,hok⟩:=hI;rw[List.getElem?_map,Option.map_eq_some_iff]at hk;obtain⟨x,hx,rfl⟩:=hk;have hlt:=(List.getElem?_eq_some_iff.1 hx).1;have hd:l.drop k=x::l.drop (k+1):=by
    rw[List.drop_eq_getElem_cons hlt];congr 1;exact(List.getElem?_eq_some_iff.1 hx).2
   rw[hd]at hrun hok;obtain⟨hl,L,hla,hlb,hex⟩:=h6 x s hok.1;refine⟨hl,L,_,hla,hlb,?_,hex⟩;intro e st' hq;have fin:∀ e',rgX exE T Hy st.h.length e' st' (step x s)→∃ y js,exE y=e'∧gD step l s0=.inl y∧st.h.length≤(Hy y).length∧Sub js st.h.length ⟨T,st'.h⟩ ⟨T,Hy y⟩:=by
    intro e' q;cases hs:step x s with
    |inr s'=>rw[hs]at q;exact q.elim
    |inl y=>
     rw[hs]at q;obtain⟨q1,js,q2,q3⟩:=q;simp only[gD,hs]at hrun;exact⟨y,js,q1,hrun.symm,q2,q3⟩
   cases e with
   |normal=>
    change rgN T H st.h.length st' (step x s)at hq;cases hs:step x s with
    |inl y=>rw[hs]at hq;exact hq.elim
    |inr s'=>
     rw[hs]at hq;obtain⟨js,q1,q2⟩:=hq;simp only[gD,hs]at hrun;exact⟨.inl s',js,⟨hrun,hok.2 s' hs⟩,q1,q2⟩
   |exit j=>
    obtain⟨y,js,q1,q2,q3,q4⟩:=fin _ hq;exact⟨.inr y,js,⟨q2,q1⟩,q3,q4⟩
   |ret=>
    obtain⟨y,js,q1,q2,q3,q4⟩:=fin _ hq;exact⟨.inr y,js,⟨q2,q1⟩,q3,q4⟩
   |pan x=>exact hq.elim
 ·intro z hI;cases z with
  |inr y=>exact hI.elim
  |inl s=>
   obtain⟨js,q1,q2⟩:=h7 s;have:=hI.1;rw[List.length_map,List.drop_length]at this;exact⟨.inr s,js,this,rfl,q1,q2⟩
 ·intro z hS;cases z with
  |inl s=>exact hS.elim
  |inr y=>
   obtain⟨js,q1,q2⟩:=h8 y;exact⟨.inl y,js,hS.1.symm,hS.2,q1,q2⟩
 ·intro j z hS;cases z with
  |inl s=>exact hS.elim
  |inr y=>
   obtain⟨js,q1,q2⟩:=h8 y;refine⟨.inl y,js,hS.1.symm,?_,q1,q2⟩;have:=hS.2;show exE y=_;rw[this];by_cases hj:j=id
   ·rw[if_pos hj];have hb:Nat.beq j id=true:=by rw[hj];exact Nat.beq_refl id
    rw[hb];rfl
   ·rw[if_neg hj];cases hb:Nat.beq j id with
    |true=>exact absurd (Nat.eq_of_beq_eq_true hb) hj
    |false=>rfl
end
section
variable {P:Program}{ρ σ τ:Type}
def x7:Ob→Option Nat
 | .mi _ _ _ c=>c
 |_=>none
def nxC (step:τ→σ→ρ⊕σ)(l:List τ)(d:τ)(D:List Nat→Option Nat→σ→St)(n0:Nat)(left:List Nat)(s:σ)(st:St):Option Nat→Prop
 |some j=>j∈left∧uC (fun _ s'=>D (left.erase j) (some j) s') n0 0 st (step (l.getD j d) s)
 |none=>False
def exC (step:τ→σ→ρ⊕σ)(l:List τ)(d:τ)(exE:ρ→Ex)(outE:ρ→St)(n0:Nat)(left:List Nat)(s:σ)(e:Ex)(st:St):Option Nat→Prop
 |some j=>j∈left∧nY exE outE n0 e st (step (l.getD j d) s)
 |none=>False
def cM (step:τ→σ→ρ⊕σ)(l:List τ)(d:τ)(exE:ρ→Ex)(outE:ρ→St)(outN:σ→St)(D:List Nat→Option Nat→σ→St)(n0 id it:Nat)(left:List Nat)(s:σ):Ex→St→Prop
 | .normal,st=>nxC step l d D n0 left s st (x7 (aj st.h it))
 | .exit j,st=>bif Nat.beq j id then(left=[]→i9 (outN s) n0 st)∧(left≠[]→exC step l d exE outE n0 left s .normal st (x7 (aj st.h it)))else exC step l d exE outE n0 left s (.exit j) st (x7 (aj st.h it))
 | .ret,st=>exC step l d exE outE n0 left s .ret st (x7 (aj st.h it))
 | .pan x,st=>exC step l d exE outE n0 left s (.pan x) st (x7 (aj st.h it))
variable {step:τ→σ→ρ⊕σ}{l:List τ}{d:τ}{n0 id it j:Nat}{exE:ρ→Ex}{outE:ρ→St}{outN:σ→St}{D:List Nat→Option Nat→σ→St}{left:List Nat}{s s':σ}{st:St}{x:Value}{e:Ex}{y:ρ}{t:List (Nat×SV)}{h:List Ob}
@[go_sem] theorem Z7 {m:Option Nat}{n:Nat}{left:List Nat}{c:Option Nat}:x7 (.mi m n left c)=c:=(rfl)
@[go_sem] theorem X0:nxC step l d D n0 left s st (some j)=(j∈left∧uC (fun _ s'=>D (left.erase j) (some j) s') n0 0 st (step (l.getD j d) s)):=(rfl)
@[go_sem] theorem X1:exC step l d exE outE n0 left s e st (some j)=(j∈left∧nY exE outE n0 e st (step (l.getD j d) s)):=(rfl)
@[go_sem] theorem Wf:cM step l d exE outE outN D n0 id it left s .normal ⟨t,h⟩=nxC step l d D n0 left s ⟨t,h⟩ (x7 (aj h it)):=(rfl)
@[go_sem] theorem Z8:cM step l d exE outE outN D n0 id it left s (.exit j) ⟨t,h⟩=bif Nat.beq j id then(left=[]→i9 (outN s) n0 ⟨t,h⟩)∧(left≠[]→exC step l d exE outE n0 left s .normal ⟨t,h⟩ (x7 (aj h it)))else exC step l d exE outE n0 left s (.exit j) ⟨t,h⟩ (x7 (aj h it)):=(rfl)
@[go_sem] theorem aa_:cM step l d exE outE outN D n0 id it left s .ret ⟨t,h⟩=exC step l d exE outE n0 left s .ret ⟨t,h⟩ (x7 (aj h it)):=(rfl)
@[go_sem] theorem aba:cM step l d exE outE outN D n0 id it left s (.pan x) ⟨t,h⟩=exC step l d exE outE n0 left s (.pan x) ⟨t,h⟩ (x7 (aj h it)):=(rfl)
attribute [go_sem] Mh
@[go_sem] theorem X2 {t:List (Nat×SV)}{h:List Ob}{d:Nat}{s:SV}:St.put ⟨t,h⟩ (some d) s=⟨(d,s)::t,h⟩:=(rfl)
@[go_sem] theorem X3 {t:List (Nat×SV)}{h:List Ob}{s:SV}:St.put ⟨t,h⟩ none s=⟨t,h⟩:=(rfl)
def okM (step:τ→σ→ρ⊕σ)(p:τ→σ→Prop)(l:List τ)(s:σ):Prop:= ∀ L,L.Perm l→gD step L s=gD step l s∧okL step p L s
theorem Cb (l:List τ)(d:τ):(List.range l.length).map (fun j=>l.getD j d)=l:=by
 apply List.ext_getElem
 ·simp
 ·intro i h1 h2;simp only[List.length_map,List.length_range]at h1;simp[List.getD_eq_getElem?_getD,List.getElem?_eq_getElem h1]
theorem Lh {ts:Tis}{G:Cons}{ro:Option Nat}{N:Nat}(hm:P.follows .mixedOrders=true)(hts:ts.ok P)(hG:ConsOk P G){id:Nat}{c:Code}(hc:bO N c=true){C:St→Option LCon}
  (h:∀ st lc,C st=some lc→lc.pre→∃ (τ ρ σ:Type) (pre:Prop) (step:τ→σ→ρ⊕σ) (p:τ→σ→Prop) (l:List τ) (d:τ) (s0:σ) (exE:ρ→Ex) (outE:ρ→St) (outN:σ→St) (D:List Nat→Option Nat→σ→St) (it:Nat) (stN:St) (js:List Nat),
   lc=LC pre (gD step l s0) exE outE outN∧okM step p l s0∧NilS st stN∧st.h.length≤(D (List.range l.length) none s0).h.length∧Sub js st.h.length stN (D (List.range l.length) none s0)∧
   ∀ left cur s,(∀ j,j∈left→j<l.length∧p (l.getD j d) s)→∃ L,am P ro N L c∧exec ts G L c (D left cur s) (cM step l d exE outE outN D st.h.length id it left s)):kG P ro N id (.loop c) C:=by
 refine uB hm hts hG hc fun st lc hC hp=>?_;obtain⟨τ,ρ,σ,pre,step,p,l,d,s0,exE,outE,outN,D,it,stN,js,rfl,h1,hN,h2,h3,h4⟩:=h st lc hC hp;refine⟨List Nat×Option Nat×σ,fun x=>D x.1 x.2.1 x.2.2,fun x=>(∀ j,j∈x.1→j<l.length)∧∀ Q:List Nat,Q.Perm x.1→gD step (Q.map fun j=>l.getD j d) x.2.2=gD step l s0∧okL step p (Q.map fun j=>l.getD j d) x.2.2,fun x=>x.1.length,(List.range l.length,none,s0),stN,js,⟨fun j hj=>List.mem_range.1 hj,?_⟩,hN,h2,h3,?_⟩
 ·intro Q hQ;have:=hQ.map (fun j=>l.getD j d);rw[Cb]at this;exact h1 _ this
 rintro⟨left,cur,s⟩ ⟨hlt0,hI⟩;simp only at hI hlt0;have hI':∀ j,j∈left→∀ Q:List Nat,Q.Perm (left.erase j)→gD step (l.getD j d::Q.map fun j=>l.getD j d) s=gD step l s0∧okL step p (l.getD j d::Q.map fun j=>l.getD j d) s:=by
  intro j hj Q hQ;have:=hI (j::Q) (((List.perm_cons_erase hj).trans (hQ.symm.cons j)).symm);simpa only[List.map_cons]using this
 obtain⟨L,hl,hex⟩:=h4 left cur s (fun j hj=>⟨hlt0 j hj,(hI' j hj _ (.refl _)).2.1⟩);refine⟨L,_,hl,?_,hex⟩;have hfin:∀ e st' o,exC step l d exE outE st.h.length left s e st' o→∃ r js,(LC pre (gD step l s0) exE outE outN).post r∧(LC pre (gD step l s0) exE outE outN).ex r=e∧st.h.length≤((LC pre (gD step l s0) exE outE outN).out r).h.length∧Sub js st.h.length st' ((LC pre (gD step l s0) exE outE outN).out r):=by
  intro e st' o q;cases o with
  |none=>exact q.elim
  |some j=>
   obtain⟨hj,q⟩:=q;have hrun:=(hI' j hj _ (.refl _)).1;cases hs:step (l.getD j d) s with
   |inr s'=>rw[hs]at q;exact q.elim
   |inl x=>
    rw[hs]at q;obtain⟨q2,js,q3,q4⟩:=q;simp only[gD,hs]at hrun;exact⟨.inl x,js,hrun,q2,q3,q4⟩
 intro e st' hq;cases e with
 |normal=>
  change nxC step l d D st.h.length left s st' (x7 (aj st'.h it))at hq;cases ho:x7 (aj st'.h it)with
  |none=>rw[ho]at hq;exact hq.elim
  |some j=>
   rw[ho]at hq;obtain⟨hj,hq⟩:=hq;cases hs:step (l.getD j d) s with
   |inl x=>rw[hs]at hq;exact hq.elim
   |inr s'=>
    rw[hs]at hq;obtain⟨js,q3,q4⟩:=hq;refine⟨(left.erase j,some j,s'),js,⟨fun i hi=>hlt0 i (List.mem_of_mem_erase hi),?_⟩,?_,q3,q4⟩
    ·intro Q hQ;have:=hI' j hj Q hQ;simp only[gD,hs,okL]at this;exact⟨this.1,this.2.2 s' rfl⟩
    ·have:=List.length_pos_of_mem hj;simp only[List.length_erase_of_mem hj];omega
 |exit j=>
  have hq':(bif Nat.beq j id then(left=[]→i9 (outN s) st.h.length st')∧(left≠[]→exC step l d exE outE st.h.length left s .normal st' (x7 (aj st'.h it)))else exC step l d exE outE st.h.length left s (.exit j) st' (x7 (aj st'.h it))):=hq;show bif Nat.beq j id then _ else _;cases hb:Nat.beq j id with
  |true=>
   rw[hb]at hq';simp only[cond_true]at hq' ⊢;by_cases hlt:left=[]
   ·obtain⟨js,q3,q4⟩:=hq'.1 hlt;have hrun:=(hI [] (by rw[hlt])).1;simp only[List.map_nil,gD]at hrun;exact⟨.inr s,js,hrun,rfl,q3,q4⟩
   ·exact hfin _ _ _ (hq'.2 hlt)
  |false=>rw[hb]at hq';exact hfin _ _ _ hq'
 |ret=>exact hfin _ _ _ hq
 |pan x=>exact hfin _ _ _ hq
end
inductive NLoc where
 |slot (i:Nat) (o:Ob)
 |cell (i j:Nat) (o:Ob)
def ND (j n:Nat):Ob→Ob
 | .cells l=>.cells (l.set j (.os n))
 |o=>o
def QK (j:Nat):Ob→Prop
 | .cells l=>nth l j=some (.v (.slice none 0 0))
 |_=>False
def Cc:Ob→Prop
 | .row _ l=>l=[]
 | .grid _ l=>l=[]
 |_=>False
def Li:SV→Ob→Prop
 | .v (.slice none 0 0),_=>True
 | .e0,.row _ _=>True
 |_,_=>False
def mkN:List NLoc→St→St
 | [],st=>st
 | .slot i o::r,⟨t,h⟩ =>mkN r ⟨(i,.os h.length)::t,h++[o]⟩
 | .cell i j o::r,⟨t,h⟩ =>mkN r ⟨t,bf h i (ND j h.length (aj h i))++[o]⟩
def okN:List NLoc→St→Prop
 | [],_=>True
 | .slot i o::r,⟨t,h⟩ =>Li (lk i t) o∧Cc o∧okN r ⟨(i,.os h.length)::t,h++[o]⟩
 | .cell i j o::r,⟨t,h⟩ =>QK j (aj h i)∧Cc o∧okN r ⟨t,bf h i (ND j h.length (aj h i))++[o]⟩
section
variable {i j m n:Nat}{o:Ob}{r:List NLoc}{t t2:List (Nat×SV)}{h h2:List Ob}{l:List SV}{ns:List NLoc}{js:List Nat}{st:St}
@[go_sem] theorem Z9:mkN [] st=st:=(rfl)
@[go_sem] theorem X4:mkN (.slot i o::r) ⟨t,h⟩=mkN r ⟨(i,.os h.length)::t,h++[o]⟩:=(rfl)
@[go_sem] theorem X5:mkN (.cell i j o::r) ⟨t,h⟩=mkN r ⟨t,bf h i (ND j h.length (aj h i))++[o]⟩:=(rfl)
@[go_sem] theorem Z_:okN [] st=True:=(rfl)
@[go_sem] theorem X6:okN (.slot i o::r) ⟨t,h⟩=(Li (lk i t) o∧Cc o∧okN r ⟨(i,.os h.length)::t,h++[o]⟩):=(rfl)
@[go_sem] theorem X7:okN (.cell i j o::r) ⟨t,h⟩=(QK j (aj h i)∧Cc o∧okN r ⟨t,bf h i (ND j h.length (aj h i))++[o]⟩):=(rfl)
@[go_sem] theorem X8:Li (.v (.slice none 0 0)) o=True:=by cases o <;>rfl
@[go_sem] theorem aaa {k:Tag}{m:List k.T}:Li .e0 (.row k m)=True:=(rfl)
@[go_sem] theorem TZ:ND j n (.cells l)=.cells (l.set j (.os n)):=(rfl)
@[go_sem] theorem T0:QK j (.cells l)=(nth l j=some (.v (.slice none 0 0))):=(rfl)
theorem JW (h:Cc o):(∃ k,o=.row k [])∨∃ k,o=.grid k []:=by
 cases o <;>simp only[Cc]at h
 ·subst h;exact .inl ⟨_,rfl⟩
 ·subst h;exact .inr ⟨_,rfl⟩
theorem NE {s:SV}{o:Ob}(h:Li s o):s=.v (.slice none 0 0)∨(s=.e0∧∃ k l,o=.row k l):=by
 unfold Li at h;split at h
 ·exact .inl rfl
 ·exact .inr ⟨rfl,_,_,rfl⟩
 ·exact h.elim
theorem ww:∀ (ns:List NLoc) (st0 st:St),NilS st0 st→okN ns st→NilS st0 (mkN ns st)
 | [],_,_,hn,_=>hn
 | .slot i o::r,st0,⟨t,h⟩,hn,hk=>by
  rcases NE hk.1 with e| ⟨e,k,l,ho⟩
  ·exact ww r st0 _ (.slot o hn e (JW hk.2.1)) hk.2.2
  ·have h2:=hk.2.1;have h3:=hk.2.2;rw[ho]at h2 h3;simp only[Cc]at h2;subst h2;subst ho;exact ww r st0 _ (.slotE k hn e) h3
 | .cell i j o::r,st0,⟨t,h⟩,hn,hk=>by
  refine ww r st0 _ ?_ hk.2.2;have h1:=hk.1;cases ho:aj h i with
  |cells l=>
   rw[ho]at h1;simp only[QK,f7]at h1;exact .cell o hn ho h1 (JW hk.2.1)
  |_=>rw[ho]at h1;exact h1.elim
def sA (m:Nat)(ns:List NLoc)(js:List Nat)(st d:St):Prop:=st.h.length=m∧okN ns st∧m≤d.h.length∧Sub js m (mkN ns st) d
@[go_sem] theorem Wg:sA m ns js ⟨t,h⟩ ⟨t2,h2⟩=(h.length=m∧okN ns ⟨t,h⟩∧m≤h2.length∧Sub js m (mkN ns ⟨t,h⟩) ⟨t2,h2⟩):=(rfl)
end
theorem ag {P:Program}{ro:Option Nat}{N:Nat}(c:Code):am P ro N L0 c:=by
 induction c with
 |seq a b ha hb=>exact⟨ha,hb⟩
 |cond _ a b ha hb=>exact⟨ha,hb⟩
 |block id c hc=>
  cases c with
  |loop c=>exact fun _ _ _ _ _ h=>by cases h
  |rangeFunc f ps a b=>exact fun _ _ _ _ _ h=>by cases h
  |_=>exact hc
 |_=>trivial
section
variable {ρ σ τ:Type}
def pT:Nat→σ→Prop:=fun _ _=>True
@[go_sem] theorem abb {step:Nat→σ→ρ⊕σ}{n i:Nat}{s:σ}:okI step pT n i s=True:=eq_true (nr _ _ _ fun _ _ _ _=>trivial)
def LCR (m:Nat)(ns:List NLoc)(js:List Nat)(D:Nat→σ→St)(step:Nat→σ→ρ⊕σ)(p:Nat→σ→Prop)(n:Nat)(s0:σ)(B:Prop)(exE:ρ→Ex)(outE:ρ→St)(st:St):LCon:=
 LC (sA m ns js st (D 0 s0)∧B∧okI step p n 0 s0) (aq step n 0 s0) exE outE (D n)
def LCV (m:Nat)(ns:List NLoc)(js:List Nat)(D:Nat→σ→St)(step:Nat→σ→ρ⊕σ)(p:Nat→σ→Prop)(n:Nat)(s0:σ)(exE:ρ→Ex)(outE:ρ→St)(st:St):LCon:=
 LC (sA m ns js st (D 0 s0)∧okI step p n 0 s0∧∀ s,aq step n 0 s0≠ .inr s) (aq step n 0 s0) exE outE (D n)
def LCM (m:Nat)(ns:List NLoc)(js:List Nat)(D:List Nat→Option Nat→σ→St)(step:τ→σ→ρ⊕σ)(p:τ→σ→Prop)(l:List τ)(s0:σ)(exE:ρ→Ex)(outE:ρ→St)(outN:σ→St)(st:St):LCon:=
 LC (sA m ns js st (D (List.range l.length) none s0)∧okM step p l s0) (gD step l s0) exE outE outN
variable {m:Nat}{ns:List NLoc}{js:List Nat}{step:Nat→σ→ρ⊕σ}{p:Nat→σ→Prop}{n:Nat}{s0:σ}{B:Prop}{exE:ρ→Ex}{outE:ρ→St}{outN:σ→St}{st:St}{Q:Ex→St→Prop}
@[go_sem] theorem Wh {D:Nat→σ→St}:rS Q (some (LCR m ns js D step p n s0 B exE outE st))=((sA m ns js st (D 0 s0)∧B∧okI step p n 0 s0)∧(∀ x,aq step n 0 s0=.inl x→Q (exE x) (outE x))∧∀ s,aq step n 0 s0=.inr s→Q .normal (D n s)):=B8
@[go_sem] theorem Wi {D:Nat→σ→St}:rS Q (some (LCV m ns js D step p n s0 exE outE st))=((sA m ns js st (D 0 s0)∧okI step p n 0 s0∧∀ s,aq step n 0 s0≠ .inr s)∧∀ x,aq step n 0 s0=.inl x→Q (exE x) (outE x)):=by
 refine B8.trans ?_;apply propext;constructor
 ·rintro⟨h1,h2,_⟩;exact⟨h1,h2⟩
 ·rintro⟨h1,h2⟩;exact⟨h1,h2,fun s hs=>absurd hs (h1.2.2 s)⟩
@[go_sem] theorem Wj {D:List Nat→Option Nat→σ→St}{step:τ→σ→ρ⊕σ}{p:τ→σ→Prop}{l:List τ}:rS Q (some (LCM m ns js D step p l s0 exE outE outN st))=((sA m ns js st (D (List.range l.length) none s0)∧okM step p l s0)∧(∀ x,gD step l s0=.inl x→Q (exE x) (outE x))∧∀ s,gD step l s0=.inr s→Q .normal (outN s)):=B8
def cR (step:Nat→σ→ρ⊕σ)(exE:ρ→Ex)(outE:ρ→St)(D:Nat→σ→St)(m id k:Nat)(s:σ):Ex→St→Prop
 | .normal,st=>uC D m k st (step k s)
 | .exit j,st=>nY exE outE m (bif Nat.beq j id then .normal else .exit j) st (step k s)
 | .ret,st=>nY exE outE m .ret st (step k s)
 | .pan x,st=>nY exE outE m (.pan x) st (step k s)
def cZ (d:St)(m id:Nat):Ex→St→Prop
 | .exit j,st=>bif Nat.beq j id then i9 d m st else False
 |_,_=>False
variable {D:Nat→σ→St}{id k j:Nat}{s:σ}{x:Value}{d:St}{e e':Ex}
@[go_sem] theorem Wk:cR step exE outE D m id k s .normal st=uC D m k st (step k s):=(rfl)
@[go_sem] theorem aab:cR step exE outE D m id k s (.exit j) st=nY exE outE m (bif Nat.beq j id then .normal else .exit j) st (step k s):=(rfl)
@[go_sem] theorem abc:cR step exE outE D m id k s .ret st=nY exE outE m .ret st (step k s):=(rfl)
@[go_sem] theorem abd:cR step exE outE D m id k s (.pan x) st=nY exE outE m (.pan x) st (step k s):=(rfl)
@[go_sem] theorem aac:cZ d m id (.exit j) st=bif Nat.beq j id then i9 d m st else False:=(rfl)
@[congr] theorem X9 {st':St}(h:st=st')(he:e=e'):cR step exE outE D m id k s e st=cR step exE outE D m id k s e' st':=by rw[h,he]
@[congr] theorem X_ {st':St}(h:st=st')(he:e=e'):cZ d m id e st=cZ d m id e' st':=by rw[h,he]
@[congr] theorem R6 {r r':ρ⊕σ}(h:r=r')(he:e=e'):nY exE outE m e st r=nY exE outE m e' st r':=by rw[h,he]
end
section
variable {P:Program}{ρ σ τ:Type}{ts:Tis}{G:Cons}{ro:Option Nat}{N:Nat}{id:Nat}{c:Code}{C:St→Option LCon}{m:Nat}{ns:List NLoc}{js:List Nat}{step:Nat→σ→ρ⊕σ}{p:Nat→σ→Prop}{n:Nat}{s0:σ}{exE:ρ→Ex}{outE:ρ→St}{D:Nat→σ→St}
theorem NF {n0:Nat}(hn0:n0=m){s:σ}{k:Nat}(hlt:k<n){I:Nat×σ→Prop}{μ:Nat×σ→Nat}{outN:σ→St}{pre:Prop}{run:ρ⊕σ}
  (hI:∀ s',step k s=.inr s'→I (k+1,s')∧μ (k+1,s') <μ (k,s)) (hx:∀ x,step k s=.inl x→run=.inl x):
  ∀ e st',cR step exE outE D m id k s e st'→uY (fun x:Nat×σ=>D x.1 x.2) I μ n0 (k,s) id (fun e st'=>∃ r js,(LC pre run exE outE outN).post r∧(LC pre run exE outE outN).ex r=e∧n0≤((LC pre run exE outE outN).out r).h.length∧Sub js n0 st' ((LC pre run exE outE outN).out r)) e st':=by
 subst hn0;have hfin:∀ e st',nY exE outE n0 e st' (step k s)→∃ r js,(LC pre run exE outE outN).post r∧(LC pre run exE outE outN).ex r=e∧n0≤((LC pre run exE outE outN).out r).h.length∧Sub js n0 st' ((LC pre run exE outE outN).out r):=by
  intro e st' q;cases hs:step k s with
  |inr s'=>rw[hs]at q;exact q.elim
  |inl x=>
   rw[hs]at q;obtain⟨q2,js,q3,q4⟩:=q;exact⟨.inl x,js,(hx x hs).symm,q2,q3,q4⟩
 intro e st' hq;cases e with
 |normal=>
  change uC D n0 k st' (step k s)at hq;cases hs:step k s with
  |inl x=>rw[hs]at hq;exact hq.elim
  |inr s'=>
   rw[hs]at hq;obtain⟨js,q3,q4⟩:=hq;obtain⟨i1,i2⟩:=hI s' hs;exact⟨(k+1,s'),js,i1,i2,q3,q4⟩
 |exit j=>
  change nY exE outE n0 (bif Nat.beq j id then .normal else .exit j) st' (step k s)at hq;show bif Nat.beq j id then _ else _;cases hb:Nat.beq j id with
  |true=>rw[hb]at hq;exact hfin _ _ hq
  |false=>rw[hb]at hq;exact hfin _ _ hq
 |ret=>exact hfin _ _ hq
 |pan x=>exact hfin _ _ hq
theorem zK {B:Prop}(hm:P.follows .mixedOrders=true)(hts:ts.ok P)(hG:ConsOk P G)(hc:bO N c=true)(hC:∀ st,C st=some (LCR m ns js D step p n s0 B exE outE st))
  (h:B→∀ k s,k<n→p k s→∃ L Q,am P ro N L c∧(∀ e st',Q e st'→cR step exE outE D m id k s e st')∧exec ts G L c (D k s) Q)
  (h2:B→∀ s,∃ Q,(∀ e st',Q e st'→cZ (D n s) m id e st')∧exec ts G L0 c (D n s) Q):kG P ro N id (.loop c) C:=by
 refine uB hm hts hG hc fun st lc hC' hp=>?_;rw[hC st]at hC';cases hC';obtain⟨⟨hlen,hok,hle,hsub⟩,hB,h1⟩:=hp;refine⟨Nat×σ,fun x=>D x.1 x.2,fun x=>x.1≤n∧okI step p (n - x.1) x.1 x.2∧aq step (n - x.1) x.1 x.2=aq step n 0 s0,fun x=>n - x.1,(0,s0),mkN ns st,js,⟨Nat.zero_le _,by simpa using h1,by simp⟩,ww ns st st (.refl _) hok,by rw[hlen];exact hle,by rw[hlen];exact hsub,?_⟩;rintro⟨k,s⟩ ⟨hk,hJ,hrun⟩;simp only at hk hJ hrun;rcases Nat.lt_or_ge k n with hlt|hge
 ·rw[show n - k=(n - k - 1)+1 by omega]at hrun hJ;obtain⟨L,Q,hl,hQ,hex⟩:=h hB k s hlt hJ.1;have hI:∀ s',step k s=.inr s'→okI step p (n - (k+1)) (k+1) s'∧aq step (n - (k+1)) (k+1) s'=aq step n 0 s0:=fun s' hs=>by
   have:=hJ.2 s' hs;rw[show n - k - 1=n - (k+1) by omega]at this hrun;simp only[aq,hs]at hrun;exact⟨this,hrun⟩
  have hx:∀ x,step k s=.inl x→aq step n 0 s0=.inl x:=fun x hs=>by
   simp only[aq,hs]at hrun;exact hrun.symm
  exact⟨L,Q,hl,fun e st' q=>NF hlen hlt (fun s' hs=>⟨⟨hlt,hI s' hs⟩,by simp only;omega⟩) hx e st' (hQ e st' q),hex⟩
 ·have hkn:k=n:=by omega
  subst hkn;obtain⟨Q,hQ,hex⟩:=h2 hB s;refine⟨L0,Q,ag c,fun e st' q=>?_,hex⟩;have hq:=hQ e st' q;simp only[Nat.sub_self,aq]at hrun;cases e with
  |exit j=>
   change bif Nat.beq j id then i9 (D k s) m st' else False at hq;show bif Nat.beq j id then _ else _;cases hb:Nat.beq j id with
   |true=>
    rw[hb]at hq;obtain⟨js,q3,q4⟩:=hq;exact⟨.inr s,js,hrun,rfl,by rw[hlen];exact q3,by rw[hlen];exact q4⟩
   |false=>rw[hb]at hq;exact hq.elim
  |_=>exact hq.elim
theorem aV {B:Prop}(hm:P.follows .mixedOrders=true)(hts:ts.ok P)(hG:ConsOk P G)(hc:bO N c=true)(hC:∀ st,C st=some (LCR m ns js D step p n s0 B exE outE st))(M:Int)(hn:n=M.toNat)(hB:B→M<9223372036854775808)
  (h:B→∀ k s,k<n→p k s→i64.wrap ((k:Int)+1)=((k+1:Nat):Int)→decide ((k:Int) <M)=true→∃ L,am P ro N L c∧exec ts G L c (D k s) (cR step exE outE D m id k s))
  (h2:B→∀ s,decide ((n:Int) <M)=false→exec ts G L0 c (D n s) (cZ (D n s) m id)):kG P ro N id (.loop c) C:=by
 refine zK hm hts hG hc hC (fun b k s hlt hp=>?_) fun b s=>⟨_,fun _ _ q=>q,h2 b s ?_⟩
 ·obtain⟨L,h1,h3⟩:=h b k s hlt hp (M7 (hn▸hlt) (hB b)) (decide_eq_true (by omega));exact⟨L,_,h1,fun _ _ q=>q,h3⟩
 ·rw[decide_eq_false_iff_not];omega
theorem NG (E:Prop)(hm:P.follows .mixedOrders=true)(hts:ts.ok P)(hG:ConsOk P G)(hc:bO N c=true)(hC:∀ st,C st=some (LCR m ns js D step p n s0 True exE outE st))(M:Int)(hn:n=M.toNat)(hE:E→M<9223372036854775808)
  (h:E→∀ k s,k<n→p k s→i64.wrap ((k:Int)+1)=((k+1:Nat):Int)→decide ((k:Int) <M)=true→∃ L,am P ro N L c∧exec ts G L c (D k s) (cR step exE outE D m id k s))
  (h2:E→∀ s,decide ((n:Int) <M)=false→exec ts G L0 c (D n s) (cZ (D n s) m id)) (h3:¬E→∀ k s,exec ts G L0 c (D k s) fun _ _=>False):kG P ro N id (.loop c) C:=by
 by_cases hb:E
 ·refine zK hm hts hG hc hC (fun b k s hlt hp=>?_) fun b s=>⟨_,fun _ _ q=>q,h2 hb s ?_⟩
  ·obtain⟨L,h1,h4⟩:=h hb k s hlt hp (M7 (hn▸hlt) (hE hb)) (decide_eq_true (by omega));exact⟨L,_,h1,fun _ _ q=>q,h4⟩
  ·rw[decide_eq_false_iff_not];omega
 ·exact zK hm hts hG hc hC (fun _ k s _ _=>⟨L0,_,ag c,fun _ _ q=>q.elim,h3 hb k s⟩) fun _ s=>⟨_,fun _ _ q=>q.elim,h3 hb n s⟩
theorem uD (hm:P.follows .mixedOrders=true)(hts:ts.ok P)(hG:ConsOk P G)(hc:bO N c=true)(hC:∀ st,C st=some (LCV m ns js D step p n s0 exE outE st))
  (h:∀ k s,p k s→∃ L,am P ro N L c∧exec ts G L c (D k s) (cR step exE outE D m id k s)):kG P ro N id (.loop c) C:=by
 refine uB hm hts hG hc fun st lc hC' hp=>?_;rw[hC st]at hC';cases hC';obtain⟨⟨hlen,hok,hle,hsub⟩,h1,hno⟩:=hp;refine⟨Nat×σ,fun x=>D x.1 x.2,fun x=>x.1≤n∧okI step p (n - x.1) x.1 x.2∧aq step (n - x.1) x.1 x.2=aq step n 0 s0,fun x=>n - x.1,(0,s0),mkN ns st,js,⟨Nat.zero_le _,by simpa using h1,by simp⟩,ww ns st st (.refl _) hok,by rw[hlen];exact hle,by rw[hlen];exact hsub,?_⟩;rintro⟨k,s⟩ ⟨hk,hJ,hrun⟩;simp only at hk hJ hrun;have hlt:k<n:=by
  rcases Nat.lt_or_ge k n with h|h
  ·exact h
  ·have hkn:k=n:=by omega
   subst hkn;simp only[Nat.sub_self,aq]at hrun;exact absurd hrun.symm (hno s)
 rw[show n - k=(n - k - 1)+1 by omega]at hrun hJ;obtain⟨L,hl,hex⟩:=h k s hJ.1;have hI:∀ s',step k s=.inr s'→okI step p (n - (k+1)) (k+1) s'∧aq step (n - (k+1)) (k+1) s'=aq step n 0 s0:=fun s' hs=>by
  have:=hJ.2 s' hs;rw[show n - k - 1=n - (k+1) by omega]at this hrun;simp only[aq,hs]at hrun;exact⟨this,hrun⟩
 have hx:∀ x,step k s=.inl x→aq step n 0 s0=.inl x:=fun x hs=>by
  simp only[aq,hs]at hrun;exact hrun.symm
 exact⟨L,_,hl,fun e st' q=>NF hlen hlt (fun s' hs=>⟨⟨hlt,hI s' hs⟩,by simp only;omega⟩) hx e st' q,hex⟩
theorem GJ {l:List τ}{step:τ→σ→ρ⊕σ}{p:τ→σ→Prop}{D:List Nat→Option Nat→σ→St}{outN:σ→St}(d:τ)(it:Nat)(hm:P.follows .mixedOrders=true)(hts:ts.ok P)(hG:ConsOk P G)(hc:bO N c=true)(hC:∀ st,C st=some (LCM m ns js D step p l s0 exE outE outN st))
  (h:∀ left cur s,(∀ j,j∈left→j<l.length∧p (l.getD j d) s)→∃ L,am P ro N L c∧exec ts G L c (D left cur s) (cM step l d exE outE outN D m id it left s)):kG P ro N id (.loop c) C:=by
 refine Lh hm hts hG hc fun st lc hC' hp=>?_;rw[hC st]at hC';cases hC';obtain⟨⟨hlen,hok,hle,hsub⟩,hM⟩:=hp;refine⟨τ,ρ,σ,_,step,p,l,d,s0,exE,outE,outN,D,it,mkN ns st,js,rfl,hM,ww ns st st (.refl _) hok,by rw[hlen];exact hle,by rw[hlen];exact hsub,?_⟩;rw[hlen];exact h
theorem ia {α:Type}{l:List α}(h:l.length≤aL):(l.length:Int) <9223372036854775808:=by unfold aL at h;omega
end
section
universe u
variable {α:Type u}{G:List SV→α→Prop}{r:List SV}
theorem dh {k:Int→List SV→Option α}(h:∀ n l c,k n l=some c→G (.v (.int .i64 n)::l) c):∀ l c,pI k l=some c→G l c:=fun l c hc=>by
 obtain⟨n,r,rfl,h1⟩:=TD hc;exact h n r c h1
theorem IA {k:Int→List SV→Option α}(h:∀ n l c,k n l=some c→G (.v (.int .u64 n)::l) c):∀ l c,pU k l=some c→G l c:=fun l c hc=>by
 obtain⟨n,r,rfl,h1⟩:=zG hc;exact h n r c h1
theorem NH {k:Bool→List SV→Option α}(h:∀ n l c,k n l=some c→G (.v (.bool n)::l) c):∀ l c,pB k l=some c→G l c:=fun l c hc=>by
 obtain⟨n,r,rfl,h1⟩:=TE hc;exact h n r c h1
theorem bK {t:Tag}{k:List t.T→List SV→Option α}(h:∀ n l c,k n l=some c→G (.rs t n::l) c):∀ l c,pR t k l=some c→G l c:=fun l c hc=>by
 obtain⟨n,r,rfl,h1⟩:=TF hc;exact h n r c h1
theorem bp {t:Tag}{k:t.T→List SV→Option α}(h:∀ n l c,k n l=some c→G (.agg (cellsOf t n)::l) c):∀ l c,pD t k l=some c→G l c:=fun l c hc=>by
 obtain⟨n,r,rfl,h1⟩:=M2 hc;exact h n r c h1
theorem aO {t:Tag}{k:t.T→List SV→Option α}(h:∀ n l c,k n l=some c→G (.ep (cellsOf t n) 0::l) c):∀ l c,pX t k l=some c→G l c:=fun l c hc=>by
 obtain⟨n,r,rfl,h1⟩:=M1 hc;exact h n r c h1
theorem ai {c0:α}(h:G [] c0):∀ l c,pE c0 l=some c→G l c:=fun l c hc=>by
 obtain⟨rfl,rfl⟩:=B4 hc;exact h
end
section
universe u
variable {α:Type u}{G:List SV→α→Prop}
def apO:Option (List SV→Option α)→List SV→Option α
 |some q,r=>q r
 |none,_=>none
@[go_sem] theorem Ya {q:List SV→Option α}{r:List SV}:apO (some q) r=q r:=(rfl)
@[go_sem] theorem Yb {r:List SV}:apO (α:=α) none r=none:=(rfl)
def pFn (f:Nat)(k:List SV→Option (List SV→Option α)):List SV→Option α
 | .fn g [] caps::r=>bif Nat.beq g f then apO (k caps) r else none
 |_=>none
def pXF (f:Nat)(k:List SV→Option (List SV→Option α)):List SV→Option α
 | .ep [.fn g [] caps] 0::r=>bif Nat.beq g f then apO (k caps) r else none
 |_=>none
@[go_sem] theorem abe {f g:Nat}{k:List SV→Option (List SV→Option α)}{caps r:List SV}:pFn f k (.fn g [] caps::r)=bif Nat.beq g f then apO (k caps) r else none:=(rfl)
@[go_sem] theorem abf {f g:Nat}{k:List SV→Option (List SV→Option α)}{caps r:List SV}:pXF f k (.ep [.fn g [] caps] 0::r)=bif Nat.beq g f then apO (k caps) r else none:=(rfl)
theorem yR {o:Option (List SV→Option α)}{r:List SV}{c:α}(h:apO o r=some c):∃ q,o=some q∧q r=some c:=by
 cases o with
 |none=>cases h
 |some q=>exact⟨q,rfl,h⟩
theorem bq {f:Nat}{k:List SV→Option (List SV→Option α)}(h:∀ caps q,k caps=some q→∀ l c,q l=some c→G (.fn f [] caps::l) c):∀ l c,pFn f k l=some c→G l c:=fun l c hc=>by
 unfold pFn at hc;split at hc
 ·rename_i g caps r;cases hb:Nat.beq g f with
  |false=>rw[hb]at hc;cases hc
  |true=>
   rw[hb]at hc;obtain⟨q,h1,h2⟩:=yR hc;have:=Nat.eq_of_beq_eq_true hb;subst this;exact h caps q h1 r c h2
 ·cases hc
theorem kH {f:Nat}{k:List SV→Option (List SV→Option α)}(h:∀ caps q,k caps=some q→∀ l c,q l=some c→G (.ep [.fn f [] caps] 0::l) c):∀ l c,pXF f k l=some c→G l c:=fun l c hc=>by
 unfold pXF at hc;split at hc
 ·rename_i g caps r;cases hb:Nat.beq g f with
  |false=>rw[hb]at hc;cases hc
  |true=>
   rw[hb]at hc;obtain⟨q,h1,h2⟩:=yR hc;have:=Nat.eq_of_beq_eq_true hb;subst this;exact h caps q h1 r c h2
 ·cases hc
def pFB (f:Nat)(k:List SV→Option (List SV→Option α)):List SV→Option α
 | .fn g caps []::r=>bif Nat.beq g f then apO (k caps) r else none
 |_=>none
def IB (f:Nat)(k:List SV→Option (List SV→Option α)):List SV→Option α
 | .ep [.fn g caps []] 0::r=>bif Nat.beq g f then apO (k caps) r else none
 |_=>none
@[go_sem] theorem abg {f g:Nat}{k:List SV→Option (List SV→Option α)}{caps r:List SV}:pFB f k (.fn g caps []::r)=bif Nat.beq g f then apO (k caps) r else none:=(rfl)
@[go_sem] theorem aad {f g:Nat}{k:List SV→Option (List SV→Option α)}{caps r:List SV}:IB f k (.ep [.fn g caps []] 0::r)=bif Nat.beq g f then apO (k caps) r else none:=(rfl)
@[go_sem] theorem abh {f g:Nat}{k:List SV→Option (List SV→Option α)}{b c r:List SV}{x:SV}:pFB f k (.fn g b (x::c)::r)=none:=(rfl)
@[go_sem] theorem aae {f g:Nat}{k:List SV→Option (List SV→Option α)}{b c r:List SV}{x:SV}:IB f k (.ep [.fn g b (x::c)] 0::r)=none:=(rfl)
@[go_sem] theorem abi {f g:Nat}{k:List SV→Option (List SV→Option α)}{b c r:List SV}{x:SV}:pFn f k (.fn g (x::b) c::r)=none:=(rfl)
@[go_sem] theorem abj {f g:Nat}{k:List SV→Option (List SV→Option α)}{b c r:List SV}{x:SV}:pXF f k (.ep [.fn g (x::b) c] 0::r)=none:=(rfl)
theorem QL {f:Nat}{k:List SV→Option (List SV→Option α)}(h:∀ caps q,k caps=some q→∀ l c,q l=some c→G (.fn f caps []::l) c):∀ l c,pFB f k l=some c→G l c:=fun l c hc=>by
 unfold pFB at hc;split at hc
 ·rename_i g caps r;cases hb:Nat.beq g f with
  |false=>rw[hb]at hc;cases hc
  |true=>
   rw[hb]at hc;obtain⟨q,h1,h2⟩:=yR hc;have:=Nat.eq_of_beq_eq_true hb;subst this;exact h caps q h1 r c h2
 ·cases hc
theorem Cd {f:Nat}{k:List SV→Option (List SV→Option α)}(h:∀ caps q,k caps=some q→∀ l c,q l=some c→G (.ep [.fn f caps []] 0::l) c):∀ l c,IB f k l=some c→G l c:=fun l c hc=>by
 unfold IB at hc;split at hc
 ·rename_i g caps r;cases hb:Nat.beq g f with
  |false=>rw[hb]at hc;cases hc
  |true=>
   rw[hb]at hc;obtain⟨q,h1,h2⟩:=yR hc;have:=Nat.eq_of_beq_eq_true hb;subst this;exact h caps q h1 r c h2
 ·cases hc
end
def pXX {α:Type 1}(t:Tag)(k:t.T→List SV→Option α):List SV→Option α
 | .ep [s] 0::r=>pX t k (s::r)
 |_=>none
@[go_sem] theorem Yc {α:Type 1}{t:Tag}{k:t.T→List SV→Option α}{s:SV}{r:List SV}:pXX t k (.ep [s] 0::r)=pX t k (s::r):=(rfl)
theorem QM {α:Type 1}{t:Tag}{k:t.T→List SV→Option α}{l:List SV}{c:α}(h:pXX t k l=some c):∃ x r,l=.ep [.ep (cellsOf t x) 0] 0::r∧k x r=some c:=by
 unfold pXX at h;split at h
 ·obtain⟨x,r,e,h1⟩:=M1 h;simp only[List.cons.injEq]at e;obtain⟨rfl,rfl⟩:=e;exact⟨x,_,rfl,h1⟩
 ·cases h
theorem bw {α:Type 1}{G:List SV→α→Prop}{t:Tag}{k:t.T→List SV→Option α}(h:∀ n l c,k n l=some c→G (.ep [.ep (cellsOf t n) 0] 0::l) c):∀ l c,pXX t k l=some c→G l c:=fun l c hc=>by
 obtain⟨n,r,rfl,h1⟩:=QM hc;exact h n r c h1
theorem yS {α:Type 1}{G:List SV→α→Prop}{t:Tag}{k:List t.T→List SV→Option α}(h:∀ n l c,k n l=some c→G (.ep [.rs t n] 0::l) c):∀ l c,pXR t k l=some c→G l c:=fun l c hc=>by
 obtain⟨n,r,rfl,h1⟩:=QJ hc;exact h n r c h1
theorem cl3 {p:Prop}(h:p:=by((repeat' (first|with_reducible refine And.intro ?_ ?_|((with_reducible show _≠_);first|assumption|omega|(simp_all [dL,fD];done) |grind) |with_reducible intro _)) <;>(first|done|assumption|rfl|omega|exact cl|(simp_all only[M5,M6,Sum.inr.injEq,Sum.inl.injEq,forall_eq',forall_const,true_imp_iff,cond_true,cond_false,and_self];done)))):p:=h
def QN (k:Tag)(K:List k.T→Option HCon):List Ob→Option HCon
 | [.row k' l] =>if h:k'=k then K (h▸l)else none
 |_=>none
theorem NI {k:Tag}{K:List k.T→Option HCon}{h:List Ob}{c:HCon}(hh:QN k K h=some c):∃ l,h=[.row k l]∧K l=some c:=by
 unfold QN at hh;split at hh
 ·split at hh
  ·rename_i e;subst e;exact⟨_,rfl,hh⟩
  ·cases hh
 ·cases hh
end Go.Sx
end
section
namespace Go.Sx
open Go.Proofs
open IntKind (i64 u64)
theorem czl {p:Prop}(h:p:=by first|(simp only[*,cond_true,cond_false,Bool.not_true,Bool.not_false,go_sem,Nat.reduceBEq,Nat.reduceLeDiff,Nat.reduceLT,decide_true,Nat.reduceAdd,Nat.reduceSub,Nat.reduceMul,Int.reduceLE,Int.reduceLT,Int.reduceToNat,Int.reduceNeg,reduceCtorEq];done) |fail):p:=h
theorem gT {l0:List Nat}(a0:JL l0){p:Prop}(h:JL l0→p:=by intro ja;(first|done|(repeat' (first|with_reducible refine And.intro ?_ ?_|((with_reducible show _≠_);first|assumption|omega|(simp_all [dL,fD];done) |grind) |with_reducible intro _)) <;>(first|done|with_reducible exact Empty.elim ‹Empty› |with_reducible assumption|rfl|omega|assumption|decide|exact fk ja|exact czl|(simp only[*,cond_true,cond_false,Bool.not_true,Bool.not_false,go_sem,Nat.reduceBEq,Nat.reduceLeDiff,Nat.reduceLT,decide_true,Nat.reduceAdd,Nat.reduceSub,Nat.reduceMul,Int.reduceLE,Int.reduceLT,Int.reduceToNat,Int.reduceNeg,reduceCtorEq];(repeat' (first|with_reducible refine And.intro ?_ ?_|((with_reducible show _≠_);first|assumption|omega|(simp_all [dL,fD];done) |grind) |with_reducible intro _)) <;>(first|done|assumption|rfl|omega|decide|exact fk ja|(simp_all [dL,fD];done))) |(simp_all [okI,dL,fD];done) |(simp_all [dL,fD];(first|done|exact fk2 ja)) |exact fk2 ja))):p:=h a0
theorem bX {l0:List Nat}(a0:JL l0){p:Prop}(h:JL l0→p:=by intro ja;simp only[go_sem,Nat.reduceBEq,Nat.reduceLeDiff,Nat.reduceLT,decide_true,Nat.reduceAdd,Nat.reduceSub,Nat.reduceMul,Int.reduceLE,Int.reduceLT,Int.reduceToNat,Int.reduceNeg,reduceCtorEq,hc,hw];all_goals exact gT ja):p:=h a0
theorem bH {l0:List Nat}(a0:JL l0){p:Prop}(h:JL l0→p:=by intro ja;simp only[go_sem,Nat.reduceBEq,Nat.reduceLeDiff,Nat.reduceLT,decide_true,Nat.reduceAdd,Nat.reduceSub,Nat.reduceMul,Int.reduceLE,Int.reduceLT,Int.reduceToNat,Int.reduceNeg,reduceCtorEq,hc];all_goals exact gT ja):p:=h a0
def lu (x:Int):Bool:=false
@[go_sem] def vD:List SV→Option Con:=(pI fun x=>(pE (.det True (.v (.bool (lu x))))))
theorem zq1 {p:Prop}(h:p:=by simp only[go_sem,Nat.reduceBEq,Nat.reduceLeDiff,Nat.reduceLT,decide_true,Nat.reduceAdd,Nat.reduceSub,Nat.reduceMul,Int.reduceLE,Int.reduceLT,Int.reduceToNat,Int.reduceNeg,reduceCtorEq];all_goals exact cl):p:=h
theorem zL:FnOk Tryz.prog 145 vD:=by
 have hG:ConsOk Tryz.prog (mkG [] []):=ap cg0 cg0;refine av [.o] mixed al hG (fn:=Tryz.f145) (c:=ae Tryz.f145) kr kr kr kr (dh fun x=>(ai (fun hp=>?_)));dsimp only[ar]at hp;refine⟨nbl rfl,L0,ag _,?_⟩
 ·unfold ae Tryz.f145;try unfold lu
  exact zq1
def cr (x:Int)(y:Int):Int:=(bif(lu x)then(bif(lu y)then 0 else(-1))else(bif(lu y)then 1 else(bif(decide (x<y))then(-1)else(bif(decide (x > y))then 1 else 0))))
@[go_sem] def lY:List SV→Option Con:=(pI fun x=>(pI fun y=>(pE (.det True (.v (.int .i64 (cr x y)))))))
theorem oz:FnOk Tryz.prog 97 lY:=by
 have hG:ConsOk Tryz.prog (mkG [(145,vD)] []):=ap (cgc zL cg0) cg0;refine av [.o] mixed al hG (fn:=Tryz.f97) (c:=ae Tryz.f97) kr kr kr kr (dh fun x=>(dh fun y=>(ai (fun hp=>?_))));dsimp only[ar]at hp;refine⟨nbl rfl,L0,ag _,?_⟩
 ·unfold ae Tryz.f97;try unfold cr
  exact zq1
def gu (n:Int):Int:=(bif(decide (n<0))then(u64.wrap (0 - (u64.wrap n)))else(u64.wrap n))
@[go_sem] def tz:List SV→Option Con:=(pI fun n=>(pE (.det True (.v (.int .u64 (gu n))))))
theorem x8:FnOk Tryz.prog 263 tz:=by
 have hG:ConsOk Tryz.prog (mkG [] []):=ap cg0 cg0;refine av [.o] mixed al hG (fn:=Tryz.f263) (c:=ae Tryz.f263) kr kr kr kr (dh fun n=>(ai (fun hp=>?_)));dsimp only[ar]at hp;refine⟨nbl rfl,L0,ag _,?_⟩
 ·unfold ae Tryz.f263;try unfold gu
  exact zq1
def dM (a:Ratio):Int:=(bif(((((decide (a.d<1)) ||(decide (a.d > 1073741824))) ||(decide (a.n< (-1073741824)))) ||(decide (a.n > 1073741824))) ||(((Lf (Int.toNat (gu a.n)) (Int.toNat (u64.wrap a.d)):Nat):Int) !=1))then 120 else 0)
def xC (a:Ratio):Prop:=(((((decide (a.d<1)) ||(decide (a.d > 1073741824))) ||(decide (a.n< (-1073741824)))) ||(decide (a.n > 1073741824)))=false→(0≤(gu a.n)∧0≤(u64.wrap a.d)))
theorem Ce (n:Int):0≤u64.wrap n:=by
 simp[IntKind.wrap,IntKind.bits,IntKind.signed];omega
theorem zM (n:Int):0≤gu n:=by
 unfold gu;cases decide (n<0) <;>exact Ce _
theorem Cf (a:Ratio):xC a:=fun _=>⟨zM _,Ce _⟩
@[go_sem] def xD:List SV→Option Con:=(pD .ratio fun a=>(pE (.det True (.v (.int .i64 (dM a))))))
theorem zq4 {p:Prop}(h:p:=by simp only[go_sem,Nat.reduceBEq,Nat.reduceLeDiff,Nat.reduceLT,decide_true,Nat.reduceAdd,Nat.reduceSub,Nat.reduceMul,Int.reduceLE,Int.reduceLT,Int.reduceToNat,Int.reduceNeg,reduceCtorEq,C83];all_goals exact cl):p:=h
theorem Cg:FnOk Tryz.prog 253 xD:=by
 have hG:ConsOk Tryz.prog (mkG [(262,C83),(263,tz)] []):=ap (cgc TV (cgc x8 cg0)) cg0;refine av [.o] mixed al hG (fn:=Tryz.f253) (c:=ae Tryz.f253) kr kr kr kr (bp fun a=>(ai (fun hp=>?_)));dsimp only[ar]at hp;have hp:=Cf a;unfold xC at hp;refine⟨nbl rfl,L0,ag _,?_⟩
 ·unfold ae Tryz.f253;try unfold dM
  exact zq4
def qi (a:Ratio)(b:Ratio):Int×Int:=(bif(((dM a) !=0) ||((dM b) !=0))then(0,120)else((cr (i64.wrap (a.n*b.d)) (i64.wrap (b.n*a.d))),0))
@[go_sem] def An:List SV→Option Con:=(pD .ratio fun a=>(pD .ratio fun b=>(pE (.det True (.tup [.v (.int .i64 ((qi a b).1)),.v (.int .i64 ((qi a b).2))])))))
theorem E2:FnOk Tryz.prog 229 An:=by
 have hG:ConsOk Tryz.prog (mkG [(97,lY),(253,xD)] []):=ap (cgc oz (cgc Cg cg0)) cg0;refine av [.o,.o] mixed al hG (fn:=Tryz.f229) (c:=ae Tryz.f229) kr kr kr kr (bp fun a=>(bp fun b=>(ai (fun hp=>?_))));dsimp only[ar]at hp;refine⟨nbl rfl,L0,ag _,?_⟩
 ·unfold ae Tryz.f229;try unfold qi
  exact zq1
def C4 (ok:Bool)(e:Int):Unit:=(bif(!ok)then default else())
def cK (ok:Bool)(e:Int):Bool:=(bif(!ok)then false else true)
@[go_sem] def rE:List SV→Option Con:=(pB fun ok=>(pI fun e=>(pE (.may (cK ok e) (.tup []) (.iface 214 (.int .i64 e))))))
theorem uE:FnOk Tryz.prog 107 rE:=by
 have hG:ConsOk Tryz.prog (mkG [] []):=ap cg0 cg0;refine av [] mixed al hG (fn:=Tryz.f107) (c:=ae Tryz.f107) kr kr kr kr (NH fun ok=>(dh fun e=>(ai (fun hp=>?_))));dsimp only[ar]at hp;refine⟨nbl rfl,L0,ag _,?_⟩
 ·unfold ae Tryz.f107;try unfold C4
  try unfold cK
  exact zq1
@[go_sem] def bF (l_:List Int)(k_0:Nat)(s_0:Unit):Unit⊕Unit:=(bif(decide ((l_.getD (Int.toNat ((k_0:Int)+1)) 0) < (l_.getD (Int.toNat (i64.wrap (((k_0:Int)+1) - 1))) 0)))then .inl ()else .inr ())
def kI (l_:List Int)(k_0:Nat)(s_0:Unit):Prop:=(l_.length≤aL→((0≤((k_0:Int)+1)∧((k_0:Int)+1) < (l_.length:Int))∧(0≤(i64.wrap (((k_0:Int)+1) - 1))∧(i64.wrap (((k_0:Int)+1) - 1)) < (l_.length:Int))))
def aJ (l_:List Int):Bool:=(match aq (bF l_) (l_.length - 1) 0 ()with| .inl x_0_0=>false| .inr s_0=>true)
def vE (l_:List Int):Prop:=okI (bF l_) (kI l_) (l_.length - 1) 0 ()
theorem zN (l_:List Int):vE l_:=nr _ _ _ fun j s h1 h2 hm=>by
 unfold aL at hm;rw[f8 (by omega) (by omega)];omega
@[go_sem] def oi:List SV→Option Con:=(pR .int fun l_=>(pE (.det True (.v (.bool (aJ l_))))))
theorem zq7 {p:Prop}(h:p:=by simp only[go_sem,Nat.reduceBEq,Nat.reduceLeDiff,Nat.reduceLT,decide_true,Nat.reduceAdd,Nat.reduceSub,Nat.reduceMul,Int.reduceLE,Int.reduceLT,Int.reduceToNat,Int.reduceNeg,reduceCtorEq,hb0]):p:=h
theorem zq8 {p:Prop}(h:p:=by simp only[go_sem,Nat.reduceBEq,Nat.reduceLeDiff,Nat.reduceLT,decide_true,Nat.reduceAdd,Nat.reduceSub,Nat.reduceMul,Int.reduceLE,Int.reduceLT,Int.reduceToNat,Int.reduceNeg,reduceCtorEq,bF,hc0,hw0];all_goals exact cl):p:=h
theorem zq9 {p:Prop}(h:p:=by simp only[go_sem,Nat.reduceBEq,Nat.reduceLeDiff,Nat.reduceLT,decide_true,Nat.reduceAdd,Nat.reduceSub,Nat.reduceMul,Int.reduceLE,Int.reduceLT,Int.reduceToNat,Int.reduceNeg,reduceCtorEq,hc0];all_goals exact cl2):p:=h
theorem qj:FnOk Tryz.prog 148 oi:=by
 have hG:ConsOk Tryz.prog (mkG [] []):=ap cg0 cg0;refine av [.o] mixed al hG (fn:=Tryz.f148) (c:=ae Tryz.f148) kr kr kr kr (bK fun l_=>(ai (fun hp=>?_)));dsimp only[ar]at hp;have hp:=zN l_;unfold vE at hp;refine⟨nbl rfl,(fun id st=>bif Nat.beq id 0 then some (LC (ρ:=Unit) (σ:=Unit) (lk 0 st.t=.rs .int l_∧lk 3 st.t=.v (.int .i64 1)∧st.h=[]∧okI (bF l_) (kI l_) (l_.length - 1) 0 ()) (aq (bF l_) (l_.length - 1) 0 ()) (fun _=>.ret) (fun x_0_0=>⟨[(2,.v (.bool false))],[]⟩) (fun s_0=>⟨[],[]⟩))else none),?_,?_⟩
 ·unfold ae Tryz.f148;simp only[am,true_and,and_true]
  ·refine Le mixed al hG kr fun st lc hC hp=>?_;simp only[go_sem,Nat.reduceBEq,Option.some.injEq]at hC;subst hC;obtain⟨t,h⟩:=st;dsimp only[LC]at hp;obtain⟨e0_0,e0_1,rfl,hok0⟩:=hp;refine⟨_,_,_,(bF l_),(kI l_),(l_.length - 1),(),_,_,_,(fun k_0 s_0=>⟨[(0,.rs .int l_),(3,.v (.int .i64 ((k_0:Int)+1)))],[]⟩),[],rfl,hok0,Nat.le_refl _,?_,fun k_0 s_0 hk0 hp0=>?_⟩
   ·simp only[go_sem,Nat.reduceBEq,Nat.reduceLeDiff,Nat.reduceLT,decide_true,Nat.reduceAdd,Nat.reduceSub,Nat.reduceMul,Int.reduceLE,Int.reduceLT,Int.reduceToNat,Int.reduceNeg,reduceCtorEq,e0_0,e0_1];all_goals (first|done|decide|(repeat' (first|refine And.intro ?_ ?_|rfl|decide)))
   refine⟨L0,?_,?_⟩
   ·simp only[am,and_self,true_and,and_true]
   ·by_cases hb0:l_.length≤aL
    rotate_left
    ·exact zq7
    ·by_cases hlt0:k_0< (l_.length - 1)
     ·have hw0:i64.wrap (((k_0:Nat):Int)+1+1)=((k_0+1:Nat):Int)+1:=by(have hbb:=hb0;have hll:=hlt0;try unfold aL at hbb);rw[f8 (by omega) (by omega)];omega
      have hq0:=hp0 hlt0;unfold kI at hq0
      replace hq0:=hq0 hb0
      try simp only[hw0,Int.toNat_natCast]at hq0
      have hc0:decide (((k_0:Int)+1) < (l_.length:Int))=true:=by simp only[decide_eq_true_eq];omega
      exact zq8
     ·have hc0:decide (((k_0:Int)+1) < (l_.length:Int))=false:=by simp only[decide_eq_false_iff_not];omega
      exact zq9
 ·unfold ae Tryz.f148;try unfold aJ
  exact zq1
def eM (i:Int)(n:Int):Bool:=((decide (i≥0))&&(decide (i<n)))
@[go_sem] def pe:List SV→Option Con:=(pI fun i=>(pI fun n=>(pE (.det True (.v (.bool (eM i n)))))))
theorem rF:FnOk Tryz.prog 150 pe:=by
 have hG:ConsOk Tryz.prog (mkG [] []):=ap cg0 cg0;refine av [.o] mixed al hG (fn:=Tryz.f150) (c:=ae Tryz.f150) kr kr kr kr (dh fun i=>(dh fun n=>(ai (fun hp=>?_))));dsimp only[ar]at hp;refine⟨nbl rfl,L0,ag _,?_⟩
 ·unfold ae Tryz.f150;try unfold eM
  exact zq1
def pf (x:Ratio×Ratio):Bool:=(((((qi x.1 x.2).2==0)&&(decide (x.1.n≥0)))&&(decide ((qi x.1 x.2).1≤0)))&&(decide (x.2.n≤x.2.d)))
@[go_sem] def wx:List SV→Option Con:=(pD .ratio2 fun x=>(pE (.det True (.v (.bool (pf x))))))
theorem AE:FnOk Tryz.prog 201 wx:=by
 have hG:ConsOk Tryz.prog (mkG [(229,An)] []):=ap (cgc E2 cg0) cg0;refine av [.o] mixed al hG (fn:=Tryz.f201) (c:=ae Tryz.f201) kr kr kr kr (bp fun x=>(ai (fun hp=>?_)));dsimp only[ar]at hp;refine⟨nbl rfl,L0,ag _,?_⟩
 ·unfold ae Tryz.f201;try unfold pf
  exact zq1
def kJ (i:Int)(x:Reach):Bool:=letI q0:=aJ ([0,x.evap.lo,x.evap.hi,1073741824]);letI q1:=aJ ([0,x.siphon,x.bank,1099511627776]);letI q2:=aJ ([0,x.siphon,x.cap,1073741824]);letI q3:=aJ ([1,x.delay,16]);letI q4:=pf x.seep;(bif(decide (i > 0))then((((((eM x.up i)&&q3)&&q2)&&q1)&&q0)&&q4)else((((((x.up==(-1))&&q3)&&q2)&&q1)&&q0)&&q4))
@[go_sem] def wy:List SV→Option Con:=(pI fun i=>(pD .reach fun x=>(pE (.det True (.v (.bool (kJ i x)))))))
theorem AF:FnOk Tryz.prog 149 wy:=by
 have hG:ConsOk Tryz.prog (mkG [(148,fun l=>oi (bv [.sl .int] l)),(150,pe),(201,wx)] []):=ap (cgc (qj.norm [.sl .int]) (cgc rF (cgc AE cg0))) cg0;refine av [.o] mixed al hG (fn:=Tryz.f149) (c:=ae Tryz.f149) kr kr kr kr (dh fun i=>(bp fun x=>(ai (fun hp=>?_))));dsimp only[ar]at hp;refine⟨nbl rfl,L0,ag _,?_⟩
 ·unfold ae Tryz.f149;try unfold kJ
  exact zq1
def pg (a0:District)(a1:Right):Bool:=letI q0:=(a1.every==0)&&(a1.length==0);letI q1:=i64.wrap (a0.hours - 1);letI q2:=a1.reach==a1.reach;letI q3:=a1.name==a1.name;letI q4:=a1.kind==a1.kind;letI q5:=a1.farm==a1.farm;(bif(((!(eM a1.farm (a0.farms.length:Int))) ||(!(eM a1.reach (a0.reaches.length:Int)))) ||(!(aJ ([0,a1.since,a1.to,q1]))))then false else(bif(a1.kind==1)then((((a1.reach==0)&&(aJ ([0,a1.rank,1048576])))&&(aJ ([1,a1.litres,1073741824])))&&(aJ ([1,a1.length,a1.every,a0.hours])))else(bif(a1.kind==2)then(q3&&(q4&&(q5&&(q2&&((a1.rank==0)&&((a1.litres==0)&&((a1.since==0)&&((a1.to==q1)&&q0))))))))else(bif(a1.kind==3)then(q3&&(q4&&(q5&&(q2&&((a1.rank==0)&&((a1.litres==0)&&((a1.since==a1.since)&&((a1.to==a1.to)&&q0))))))))else false))))
@[go_sem] def wz:List SV→Option Con:=(pD .district fun a0=>(pD .right fun a1=>(pE (.det True (.v (.bool (pg a0 a1)))))))
theorem AG:FnOk Tryz.prog 151 wz:=by
 have hG:ConsOk Tryz.prog (mkG [(148,fun l=>oi (bv [.sl .int] l)),(150,pe)] []):=ap (cgc (qj.norm [.sl .int]) (cgc rF cg0)) cg0;refine av [.o] mixed al hG (fn:=Tryz.f151) (c:=ae Tryz.f151) kr kr kr kr (bp fun a0=>(bp fun a1=>(ai (fun hp=>?_))));dsimp only[ar]at hp;refine⟨nbl rfl,L0,ag _,?_⟩
 ·unfold ae Tryz.f151;try unfold pg
  exact zq1
@[go_sem] def eh (a0:District)(a1:Int)(k_0:Nat)(s_0:Unit):Unit⊕Unit:=(bif(cK (kJ (k_0:Int) (a0.reaches.getD k_0 default)) a1)then .inr ()else .inl ())
@[go_sem] def ei (a0:District)(a1:Int)(k_1:Nat)(s_1:Unit):Unit⊕Unit:=(bif(cK (aJ ([0,(a0.crops.getD k_1 default).need,1048576])) a1)then .inr ()else .inl ())
@[go_sem] def eo (a0:District)(a1:Int)(k_2:Nat)(s_2:Unit):Unit⊕Unit:=letI q0:=a0.farms.getD k_2 default;letI q1:=eM (q0.reach) (a0.reaches.length:Int);letI q2:=aJ ([0,q0.area,1048576]);(bif(decide (q0.area > 0))then(bif(cK (((eM (q0.crop) (a0.crops.length:Int))&&q1)&&q2) a1)then .inr ()else .inl ())else(bif(cK (((q0.crop==(-1))&&q1)&&q2) a1)then .inr ()else .inl ()))
@[go_sem] def eU (a0:District)(a1:Int)(k_3:Nat)(s_3:Unit):Unit⊕Unit:=(bif(cK (pg a0 (a0.rights.getD k_3 default)) a1)then .inr ()else .inl ())
@[go_sem] def eV (a0:District)(a1:Int)(k_4:Nat)(s_4:Unit):Unit⊕Unit:=letI q0:=a0.duties.getD k_4 default;(bif(cK (((eM (q0.farm) (a0.farms.length:Int))&&(eM (q0.reach) (a0.reaches.length:Int)))&&(aJ ([0,q0.due,a0.hours]))) a1)then .inr ()else .inl ())
def Ch (a0:District)(a1:Int):Unit:=(bif(cK (((aJ ([1,a0.hours,4096]))&&(aJ ([0,a0.tank.start,a0.tank.cap,1099511627776])))&&(decide ((a0.reaches.length:Int) > 0))) a1)then(match aq (eh a0 a1) a0.reaches.length 0 ()with| .inl x_0_0=>default| .inr s_0=>(match aq (ei a0 a1) a0.crops.length 0 ()with| .inl x_1_0=>default| .inr s_1=>(match aq (eo a0 a1) a0.farms.length 0 ()with| .inl x_2_0=>default| .inr s_2=>(match aq (eU a0 a1) a0.rights.length 0 ()with| .inl x_3_0=>default| .inr s_3=>(match aq (eV a0 a1) a0.duties.length 0 ()with| .inl x_4_0=>default| .inr s_4=>())))))else default)
def f9 (a0:District)(a1:Int):Bool:=(bif(cK (((aJ ([1,a0.hours,4096]))&&(aJ ([0,a0.tank.start,a0.tank.cap,1099511627776])))&&(decide ((a0.reaches.length:Int) > 0))) a1)then(match aq (eh a0 a1) a0.reaches.length 0 ()with| .inl x_0_0=>false| .inr s_0=>(match aq (ei a0 a1) a0.crops.length 0 ()with| .inl x_1_0=>false| .inr s_1=>(match aq (eo a0 a1) a0.farms.length 0 ()with| .inl x_2_0=>false| .inr s_2=>(match aq (eU a0 a1) a0.rights.length 0 ()with| .inl x_3_0=>false| .inr s_3=>(match aq (eV a0 a1) a0.duties.length 0 ()with| .inl x_4_0=>false| .inr s_4=>true)))))else false)
@[go_sem] def uF:List SV→Option Con:=(pD .district fun a0=>(pI fun a1=>(pE (.may (f9 a0 a1) (.tup []) (.iface 214 (.int .i64 a1))))))
theorem yT:FnOk Tryz.prog 108 uF:=by
 have hG:ConsOk Tryz.prog (mkG [(107,rE),(148,fun l=>oi (bv [.sl .int] l)),(149,wy),(150,pe),(151,fun l=>wz (bv [.st .district,.st .right] l))] []):=ap (cgc uE (cgc (qj.norm [.sl .int]) (cgc AF (cgc rF (cgc (AG.norm [.st .district,.st .right]) cg0))))) cg0;refine av [] mixed al hG (fn:=Tryz.f108) (c:=ae Tryz.f108) kr kr kr kr (bp fun a0=>(dh fun a1=>(ai (fun hp=>?_))));dsimp only[ar]at hp;refine⟨nbl rfl,(fun id st=>bif Nat.beq id 0 then some (LCR (ρ:=Unit) (σ:=Unit) 1 [] [0] (fun k_0 s_0=>⟨[(1,.v (.int .i64 a1)),(2,.ptr 0 0),(38,.rs .reach a0.reaches),(39,.v (.int .i64 (a0.reaches.length:Int))),(40,.v (.int .i64 (k_0:Int)))],[.cells (cellsOf .district a0)]⟩) (eh a0 a1) pT a0.reaches.length () (a0.reaches.length≤aL) (fun _=>.pan (.iface 214 (.int .i64 a1))) (fun x_0_0=>⟨[],[.dead]⟩) st)else bif Nat.beq id 2 then some (LCR (ρ:=Unit) (σ:=Unit) 1 [] [0] (fun k_1 s_1=>⟨[(1,.v (.int .i64 a1)),(2,.ptr 0 0),(52,.rs .crop a0.crops),(53,.v (.int .i64 (a0.crops.length:Int))),(54,.v (.int .i64 (k_1:Int)))],[.cells (cellsOf .district a0)]⟩) (ei a0 a1) pT a0.crops.length () (a0.crops.length≤aL) (fun _=>.pan (.iface 214 (.int .i64 a1))) (fun x_1_0=>⟨[],[.dead]⟩) st)else bif Nat.beq id 4 then some (LCR (ρ:=Unit) (σ:=Unit) 1 [] [0] (fun k_2 s_2=>⟨[(1,.v (.int .i64 a1)),(2,.ptr 0 0),(66,.rs .farm a0.farms),(67,.v (.int .i64 (a0.farms.length:Int))),(68,.v (.int .i64 (k_2:Int)))],[.cells (cellsOf .district a0)]⟩) (eo a0 a1) pT a0.farms.length () (a0.farms.length≤aL) (fun _=>.pan (.iface 214 (.int .i64 a1))) (fun x_2_0=>⟨[],[.dead]⟩) st)else bif Nat.beq id 6 then some (LCR (ρ:=Unit) (σ:=Unit) 1 [] [0] (fun k_3 s_3=>⟨[(1,.v (.int .i64 a1)),(2,.ptr 0 0),(103,.rs .right a0.rights),(104,.v (.int .i64 (a0.rights.length:Int))),(105,.v (.int .i64 (k_3:Int)))],[.cells (cellsOf .district a0)]⟩) (eU a0 a1) pT a0.rights.length () (a0.rights.length≤aL) (fun _=>.pan (.iface 214 (.int .i64 a1))) (fun x_3_0=>⟨[],[.dead]⟩) st)else bif Nat.beq id 8 then some (LCR (ρ:=Unit) (σ:=Unit) 1 [] [0] (fun k_4 s_4=>⟨[(1,.v (.int .i64 a1)),(2,.ptr 0 0),(116,.rs .duty a0.duties),(117,.v (.int .i64 (a0.duties.length:Int))),(118,.v (.int .i64 (k_4:Int)))],[.cells (cellsOf .district a0)]⟩) (eV a0 a1) pT a0.duties.length () (a0.duties.length≤aL) (fun _=>.pan (.iface 214 (.int .i64 a1))) (fun x_4_0=>⟨[],[.dead]⟩) st)else none),?_,?_⟩
 ·unfold ae Tryz.f108;simp only[am,true_and,and_true];refine⟨?_,?_,?_,?_,?_⟩
  ·refine aV mixed al hG kr (fun _=>rfl) (a0.reaches.length:Int) rfl ia (fun hb0 k_0 s_0 hlt0 _ hw hc=>⟨L0,ag _,?_⟩) (fun hb0 s_0 hc=>?_)
   ·exact bX (jl [0])
   ·exact bH (jl [0])
  ·refine aV mixed al hG kr (fun _=>rfl) (a0.crops.length:Int) rfl ia (fun hb1 k_1 s_1 hlt1 _ hw hc=>⟨L0,ag _,?_⟩) (fun hb1 s_1 hc=>?_)
   ·exact bX (jl [0])
   ·exact bH (jl [0])
  ·refine aV mixed al hG kr (fun _=>rfl) (a0.farms.length:Int) rfl ia (fun hb2 k_2 s_2 hlt2 _ hw hc=>⟨L0,ag _,?_⟩) (fun hb2 s_2 hc=>?_)
   ·exact bX (jl [0])
   ·exact bH (jl [0])
  ·refine aV mixed al hG kr (fun _=>rfl) (a0.rights.length:Int) rfl ia (fun hb3 k_3 s_3 hlt3 _ hw hc=>⟨L0,ag _,?_⟩) (fun hb3 s_3 hc=>?_)
   ·exact bX (jl [0])
   ·exact bH (jl [0])
  ·refine aV mixed al hG kr (fun _=>rfl) (a0.duties.length:Int) rfl ia (fun hb4 k_4 s_4 hlt4 _ hw hc=>⟨L0,ag _,?_⟩) (fun hb4 s_4 hc=>?_)
   ·exact bX (jl [0])
   ·exact bH (jl [0])
 ·unfold ae Tryz.f108;try unfold Ch
  try unfold f9
  exact zq1
def bL (d:District):Int:=(bif(cK (((((decide ((d.reaches.length:Int)≤64))&&(decide ((d.farms.length:Int)≤600)))&&(decide ((d.crops.length:Int)≤32)))&&(decide ((d.rights.length:Int)≤256)))&&(decide ((d.duties.length:Int)≤256))) 2)then(bif(f9 d 191)then 0 else 191)else 2)
@[go_sem] def sB:List SV→Option Con:=(pD .district fun d=>(pE (.det True (.v (.int .i64 (bL d))))))
theorem zq16 {p:Prop}(h:p:=by simp only[go_sem,Nat.reduceBEq,Nat.reduceLeDiff,Nat.reduceLT,decide_true,Nat.reduceAdd,Nat.reduceSub,Nat.reduceMul,Int.reduceLE,Int.reduceLT,Int.reduceToNat,Int.reduceNeg,reduceCtorEq,qh,oy,TS];all_goals exact cl):p:=h
theorem vF:FnOk Tryz.prog 57 sB:=by
 have hG:ConsOk Tryz.prog (mkG [(107,rE),(108,fun l=>uF (bv [.st .district,.o] l))] []):=ap (cgc uE (cgc (yT.norm [.st .district,.o]) cg0)) cg0;refine TM Nx [.o] mixed al hG (fn:=Tryz.f57) (c0:=qh (ae Tryz.f57)) (c1:=oy (oy (ae Tryz.f57))) (i1:=PU (qh (oy (ae Tryz.f57)))) (o1:=M_ 0 (qh (oy (ae Tryz.f57)))) (o2:=M_ 1 (qh (oy (ae Tryz.f57)))) (t3:=3) (q:=2) (tys:= #[]) kr kr kr (by refine⟨?_,?_,?_⟩ <;>kernel_rfl) (by refine⟨?_,?_,?_⟩ <;>kernel_rfl) (nbl rfl) kr kr (bp fun d=>(ai (fun hp=>?_)));dsimp only[ar]at hp;refine⟨nbl rfl,L0,L0,1,?_,?_,?_⟩
 ·unfold ae Tryz.f57;simp only[qh,am,and_self,true_and,and_true]
 ·unfold ae Tryz.f57;simp only[oy];simp only[am,and_self,true_and,and_true]
 ·unfold ae Tryz.f57;try unfold bL
  exact zq16
@[go_sem] def vG (l_:List Int)(k_0:Nat)(s_0:Unit):Int⊕Unit:=(bif((l_.getD k_0 0) !=0)then .inl (l_.getD k_0 0)else .inr ())
def io (l_:List Int):Int:=(match aq (vG l_) l_.length 0 ()with| .inl x_0_0=>x_0_0| .inr s_0=>0)
@[go_sem] def wA:List SV→Option Con:=(pR .int fun l_=>(pE (.det True (.v (.int .i64 (io l_))))))
theorem AH:FnOk Tryz.prog 128 wA:=by
 have hG:ConsOk Tryz.prog (mkG [] []):=ap cg0 cg0;refine av [.o] mixed al hG (fn:=Tryz.f128) (c:=ae Tryz.f128) kr kr kr kr (bK fun l_=>(ai (fun hp=>?_)));dsimp only[ar]at hp;refine⟨nbl rfl,(fun id st=>bif Nat.beq id 0 then some (LCR (ρ:=Int) (σ:=Unit) 0 [] [] (fun k_0 s_0=>⟨[(5,.rs .int l_),(6,.v (.int .i64 (l_.length:Int))),(7,.v (.int .i64 (k_0:Int)))],[]⟩) (vG l_) pT l_.length () (l_.length≤aL) (fun _=>.ret) (fun x_0_0=>⟨[(2,.v (.int .i64 x_0_0))],[]⟩) st)else none),?_,?_⟩
 ·unfold ae Tryz.f128;simp only[am,true_and,and_true]
  ·refine aV mixed al hG kr (fun _=>rfl) (l_.length:Int) rfl ia (fun hb0 k_0 s_0 hlt0 _ hw hc=>⟨L0,ag _,?_⟩) (fun hb0 s_0 hc=>?_)
   ·exact bX (jl [])
   ·exact bH (jl [])
 ·unfold ae Tryz.f128;try unfold io
  exact zq1
def kK (a:Claim)(b:Claim):Int:=(io ([(cr a.hour b.hour),(cr a.rank b.rank),(cr a.right b.right),(cr a.farm b.farm)]))
@[go_sem] def wB:List SV→Option Con:=(pD .claim fun a=>(pD .claim fun b=>(pE (.det True (.v (.int .i64 (kK a b)))))))
theorem AI:FnOk Tryz.prog 74 wB:=by
 have hG:ConsOk Tryz.prog (mkG [(97,lY),(128,fun l=>wA (bv [.sl .int] l))] []):=ap (cgc oz (cgc (AH.norm [.sl .int]) cg0)) cg0;refine av [.o] mixed al hG (fn:=Tryz.f74) (c:=ae Tryz.f74) kr kr kr kr (bp fun a=>(bp fun b=>(ai (fun hp=>?_))));dsimp only[ar]at hp;refine⟨nbl rfl,L0,ag _,?_⟩
 ·unfold ae Tryz.f74;try unfold kK
  exact zq1
@[go_sem] def gw (a0:District)(a1:List Claim)(k_0:Nat)(s_0:Unit):Unit⊕Unit:=letI q0:=a1.getD k_0 default;letI q1:=a0.rights.getD (Int.toNat (q0.right)) default;(bif((((!((((((((decide (q0.right≥0))&&(decide (q0.right< (a0.rights.length:Int))))&&(decide (q0.farm≥0)))&&(decide (q0.farm< (a0.farms.length:Int))))&&(decide (q0.hour≥0)))&&(decide (q0.hour<a0.hours)))&&(decide (q0.litres≥1)))&&(decide (q0.litres≤1073741824)))) ||(q1.kind !=1)) ||(q1.rank !=q0.rank)) ||((decide ((k_0:Int) > 0))&&(decide ((kK (a1.getD (Int.toNat (i64.wrap ((k_0:Int) - 1))) default) q0)≥0))))then .inl ()else .inr ())
def lZ (a0:District)(a1:List Claim)(k_0:Nat)(s_0:Unit):Prop:=letI q1:=a1.getD k_0 default;letI q2:=a0.rights.getD (Int.toNat (q1.right)) default;letI q4:=i64.wrap ((k_0:Int) - 1);letI q5:=(a0.rights.length:Int);letI q0:= !((((((((decide (q1.right≥0))&&(decide (q1.right<q5)))&&(decide (q1.farm≥0)))&&(decide (q1.farm< (a0.farms.length:Int))))&&(decide (q1.hour≥0)))&&(decide (q1.hour<a0.hours)))&&(decide (q1.litres≥1)))&&(decide (q1.litres≤1073741824)));letI q3:=0≤q1.right∧q1.right<q5;((q0=false→q3)∧(((q0||(q2.kind !=1))=false→q3)∧(((q0||(q2.kind !=1)) ||(q2.rank !=q1.rank))=false→((decide ((k_0:Int) > 0))=true→(0≤q4∧q4< (a1.length:Int))))))
def bg (a0:District)(a1:List Claim):Int:=(bif((bL a0) !=0)then(bL a0)else(bif(decide ((a1.length:Int) > 4096))then 2 else(match aq (gw a0 a1) a1.length 0 ()with| .inl x_0_0=>260| .inr s_0=>0)))
def ph (a0:District)(a1:List Claim):Prop:=(((bL a0) !=0)=false→(a1.length≤aL→((decide ((a1.length:Int) > 4096))=false→(a1.length≤aL→okI (gw a0 a1) (lZ a0 a1) a1.length 0 ()))))
@[go_sem] def wC:List SV→Option Con:=(pD .district fun a0=>(pR .claim fun a1=>(pE (.det (ph a0 a1) (.v (.int .i64 (bg a0 a1)))))))
theorem AJ:FnOk Tryz.prog 32 wC:=by
 have hG:ConsOk Tryz.prog (mkG [(57,fun l=>sB (bv [.st .district] l)),(74,wB)] []):=ap (cgc (vF.norm [.st .district]) (cgc AI cg0)) cg0;refine av [.o] mixed al hG (fn:=Tryz.f32) (c:=ae Tryz.f32) kr kr kr kr (bp fun a0=>(bK fun a1=>(ai (fun hp=>?_))));dsimp only[ar]at hp;unfold ph at hp;refine⟨nbl rfl,(fun id st=>bif Nat.beq id 0 then some (LCR (ρ:=Unit) (σ:=Unit) 1 [] [0] (fun k_0 s_0=>⟨[(1,.rs .claim a1),(2,.ptr 0 0),(16,.rs .claim a1),(17,.v (.int .i64 (a1.length:Int))),(18,.v (.int .i64 (k_0:Int)))],[.cells (cellsOf .district a0)]⟩) (gw a0 a1) (lZ a0 a1) a1.length () (a1.length≤aL) (fun _=>.ret) (fun x_0_0=>⟨[(4,.v (.int .i64 260))],[.dead]⟩) st)else none),?_,?_⟩
 ·unfold ae Tryz.f32;simp only[am,true_and,and_true]
  ·refine aV mixed al hG kr (fun _=>rfl) (a1.length:Int) rfl ia (fun hb0 k_0 s_0 hlt0 hq0 hw hc=>⟨L0,ag _,?_⟩) (fun hb0 s_0 hc=>?_)
   ·unfold lZ at hq0;try simp only[hw,Int.toNat_natCast]at hq0
    exact bX (jl [0])
   ·exact bH (jl [0])
 ·unfold ae Tryz.f32;try unfold bg
  exact zq1
end Go.Sx
end
