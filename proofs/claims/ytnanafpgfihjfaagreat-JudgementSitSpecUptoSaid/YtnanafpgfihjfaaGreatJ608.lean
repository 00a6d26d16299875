/- Part of the proof that the law JudgementSitSpec returns true and leaves its arguments as they were, for all arguments of bulk at most 1048576 (the Upto form). -/
import Derived.Test.YtnanafpgfihjfaaGreatJ607
import Derived.Test.YtnanafpgfihjfaaGreatProg
set_option linter.all false
set_option maxHeartbeats 4000000
set_option maxRecDepth 100000
section
namespace Go.Sx
open Go.Proofs
theorem kr {p:Prop}(h:p:=by kernel_rfl):p:=h
def ti3:TI:=⟨1,8,false,[(.v (.int .i64 0))],[],0,0,false,false,(some .int),(some .i64),false,[],none,none,1⟩
def ti4:TI:=⟨1,1,false,[(.v (.bool false))],[],0,0,false,false,(some .bool),none,false,[],none,none,3⟩
def ti9:TI:=⟨1,16,false,[(.v (.string (ByteArray.mk #[])))],[],0,0,false,false,(some .str),none,false,[],none,none,2⟩
def Qt:TI:=⟨2,16,true,[(.v (.int .i64 0)),(.v (.int .i64 0))],[(0,(1,false)),(1,(1,false))],0,0,false,false,(some .tank),none,false,[1,1],none,none,0⟩
def Qu:TI:=⟨1,24,false,[(.v (.slice none 0 0))],[],156,0,true,false,none,none,false,[],none,none,0⟩
def Qv:TI:=⟨1,24,false,[(.v (.slice none 0 0))],[],158,0,true,false,none,none,false,[],none,none,0⟩
def Qw:TI:=⟨1,24,false,[(.v (.slice none 0 0))],[],219,0,true,false,none,none,false,[],none,none,0⟩
def Qy:TI:=⟨1,24,false,[(.v (.slice none 0 0))],[],118,0,true,false,none,none,false,[],none,none,0⟩
def Qz:TI:=⟨1,24,false,[(.v (.slice none 0 0))],[],222,0,true,false,none,none,false,[],none,none,0⟩
def QA:TI:=⟨10,184,true,[(.v (.string (ByteArray.mk #[]))),(.v (.int .i64 0)),(.v (.int .i64 0)),(.v (.int .i64 0)),(.v (.slice none 0 0)),(.v (.slice none 0 0)),(.v (.slice none 0 0)),(.v (.slice none 0 0)),(.v (.slice none 0 0)),(.v (.slice none 0 0))],[(0,(1,false)),(1,(1,false)),(2,(2,true)),(4,(1,false)),(5,(1,false)),(6,(1,false)),(7,(1,false)),(8,(1,false)),(9,(1,false))],0,0,false,false,(some .district),none,false,[],none,none,0⟩
def IW:TI:=⟨1,24,false,[(.v (.slice none 0 0))],[],68,0,true,false,none,none,false,[],none,none,0⟩
def QB:TI:=⟨1,24,false,[(.v (.slice none 0 0))],[],66,0,true,false,none,none,false,[],none,none,0⟩
def QC:TI:=⟨1,8,false,[(.v .nilFunc)],[],0,0,false,false,(some .fnc),none,false,[],none,none,0⟩
def QD:TI:=⟨1,24,false,[(.v (.slice none 0 0))],[],3,0,true,false,none,none,false,[],none,none,0⟩
def QE:TI:=⟨1,24,false,[(.v (.slice none 0 0))],[],55,0,true,false,none,none,false,[],none,none,0⟩
def QF:TI:=⟨2,48,true,[(.v (.slice none 0 0)),(.v (.slice none 0 0))],[(0,(1,false)),(1,(1,false))],0,0,false,false,(some .cases),none,false,[],none,none,0⟩
def QG:TI:=⟨1,24,false,[(.v (.slice none 0 0))],[],62,0,true,false,none,none,false,[],none,none,0⟩
def QH:TI:=⟨5,72,true,[(.v (.int .i64 0)),(.v (.int .i64 0)),(.v (.int .i64 0)),(.v (.slice none 0 0)),(.v (.slice none 0 0))],[(0,(1,false)),(1,(1,false)),(2,(1,false)),(3,(1,false)),(4,(1,false))],0,0,false,false,(some .case),none,false,[],none,none,0⟩
def QI:TI:=⟨1,24,false,[(.v (.slice none 0 0))],[],176,0,true,false,none,none,false,[],none,none,0⟩
def QJ:TI:=⟨2,48,true,[(.v (.slice none 0 0)),(.v (.slice none 0 0))],[(0,(1,false)),(1,(1,false))],0,0,false,false,(some .plea),none,false,[],none,none,0⟩
def QK:TI:=⟨6,96,true,[(.v (.int .i64 0)),(.v (.int .i64 0)),(.v (.int .i64 0)),(.v (.slice none 0 0)),(.v (.slice none 0 0)),(.v (.slice none 0 0))],[(0,(1,false)),(1,(1,false)),(2,(1,false)),(3,(2,true)),(5,(1,false))],0,0,false,false,(some .suit),none,false,[],none,none,0⟩
def QL:TI:=⟨1,8,false,[(.v (.map none))],[],4,0,false,false,none,none,false,[],(some .int),(some .bool),0⟩
def QM:TI:=⟨9,72,true,[(.v (.int .i64 0)),(.v (.int .i64 0)),(.v (.int .i64 0)),(.v (.int .i64 0)),(.v (.int .i64 0)),(.v (.int .i64 0)),(.v (.int .i64 0)),(.v (.int .i64 0)),(.v (.int .i64 0))],[(0,(1,false)),(1,(1,false)),(2,(1,false)),(3,(1,false)),(4,(1,false)),(5,(1,false)),(6,(1,false)),(7,(1,false)),(8,(1,false))],0,0,false,false,(some .judgement),none,false,[1,1,1,1,1,1,1,1,1],none,none,0⟩
def QN:TI:=⟨5,40,true,[(.v (.int .i64 0)),(.v (.int .i64 0)),(.v (.int .i64 0)),(.v (.int .i64 0)),(.v (.int .i64 0))],[(0,(1,false)),(1,(1,false)),(2,(1,false)),(3,(1,false)),(4,(1,false))],0,0,false,false,(some .claim),none,false,[1,1,1,1,1],none,none,0⟩
def QO:TI:=⟨1,8,false,[(.v (.map none))],[],3,0,false,false,none,none,false,[],(some .int),(some .int),0⟩
def QP:TI:=⟨1,8,false,[(.v (.map none))],[],98,0,false,false,none,none,false,[],(some .int),(some .fnc),0⟩
def J8:TI:=⟨10,88,true,[(.v (.string (ByteArray.mk #[]))),(.v (.int .i64 0)),(.v (.int .i64 0)),(.v (.int .i64 0)),(.v (.int .i64 0)),(.v (.int .i64 0)),(.v (.int .i64 0)),(.v (.int .i64 0)),(.v (.int .i64 0)),(.v (.int .i64 0))],[(0,(1,false)),(1,(1,false)),(2,(1,false)),(3,(1,false)),(4,(1,false)),(5,(1,false)),(6,(1,false)),(7,(1,false)),(8,(1,false)),(9,(1,false))],0,0,false,false,(some .right),none,false,[2,1,1,1,1,1,1,1,1,1],none,none,0⟩
def Cr:TI:=⟨1,8,false,[(.v (.int .u64 0))],[],0,0,false,false,none,(some .u64),false,[],none,none,1⟩
def J9:TI:=⟨2,16,true,[(.v (.int .u64 0)),(.v (.int .u64 0))],[],121,2,false,true,none,none,false,[1,1],none,none,0⟩
def J_:TI:=⟨1,24,false,[(.v (.slice none 0 0))],[],132,0,true,false,none,none,false,[],none,none,0⟩
def Ka:TI:=⟨3,40,true,[(.v (.int .u64 0)),(.v (.int .u64 0)),(.v (.slice none 0 0))],[(0,(2,true)),(2,(1,false))],0,0,false,false,(some .precedentsCourt),none,false,[],none,none,0⟩
def Kb:TI:=⟨3,24,true,[(.v (.int .i64 0)),(.v (.int .u64 0)),(.v (.int .u64 0))],[(0,(1,false)),(1,(1,false)),(2,(1,false))],0,0,false,false,(some .precedentsDecided),none,false,[1,1,1],none,none,0⟩
def Kc:TI:=⟨1,8,false,[(.v (.pointer none))],[],0,0,false,false,none,none,false,[],none,none,0⟩
def Ke:TI:=⟨1,24,false,[(.v (.slice none 0 0))],[],198,0,true,false,none,none,false,[],none,none,0⟩
def Kf:TI:=⟨4,64,true,[(.v (.slice none 0 0)),(.v (.slice none 0 0)),(.v (.map none)),(.v (.map none))],[(0,(2,true)),(2,(1,false)),(3,(1,false))],0,0,false,false,(some .pleasCourt),none,false,[],none,none,0⟩
def Kg:TI:=⟨2,16,true,[(.v (.int .i64 0)),(.v (.int .i64 0))],[(0,(1,false)),(1,(1,false))],0,0,false,false,(some .ratio),none,false,[1,1],none,none,0⟩
def Kh:TI:=⟨4,32,true,[(.v (.int .i64 0)),(.v (.int .i64 0)),(.v (.int .i64 0)),(.v (.int .i64 0))],[],151,2,false,true,(some .ratio2),none,false,[],none,none,0⟩
def Ki:TI:=⟨2,16,true,[(.v (.int .i64 0)),(.v (.int .i64 0))],[(0,(1,false)),(1,(1,false))],0,0,false,false,(some .range),none,false,[1,1],none,none,0⟩
def Kj:TI:=⟨12,104,true,[(.v (.string (ByteArray.mk #[]))),(.v (.int .i64 0)),(.v (.int .i64 0)),(.v (.int .i64 0)),(.v (.int .i64 0)),(.v (.int .i64 0)),(.v (.int .i64 0)),(.v (.int .i64 0)),(.v (.int .i64 0)),(.v (.int .i64 0)),(.v (.int .i64 0)),(.v (.int .i64 0))],[(0,(1,false)),(1,(1,false)),(2,(1,false)),(3,(1,false)),(4,(1,false)),(5,(1,false)),(6,(2,true)),(8,(4,true))],0,0,false,false,(some .reach),none,false,[],none,none,0⟩
def Kk:TI:=⟨4,40,true,[(.v (.string (ByteArray.mk #[]))),(.v (.int .i64 0)),(.v (.int .i64 0)),(.v (.int .i64 0))],[(0,(1,false)),(1,(1,false)),(2,(1,false)),(3,(1,false))],0,0,false,false,(some .farm),none,false,[2,1,1,1],none,none,0⟩
def Kl:TI:=⟨5,56,true,[(.v (.int .i64 0)),(.v (.int .i64 0)),(.v (.int .i64 0)),(.v (.bool false)),(.v (.slice none 0 0))],[(0,(1,false)),(1,(1,false)),(2,(1,false)),(3,(1,false)),(4,(1,false))],0,0,false,false,(some .clause),none,false,[],none,none,0⟩
def Km:TI:=⟨1,8,false,[(.v .nilFunc)],[],0,0,false,false,none,none,false,[],none,none,0⟩
def Kn:TI:=⟨3,72,true,[(.v (.slice none 0 0)),(.v (.slice none 0 0)),(.v (.slice none 0 0))],[(0,(1,false)),(1,(1,false)),(2,(1,false))],0,0,false,false,(some .acequiaref51State),none,false,[],none,none,0⟩
def Ko:TI:=⟨3,24,true,[(.v (.int .i64 0)),(.v (.int .i64 0)),(.v (.bool false))],[(0,(1,false)),(1,(1,false)),(2,(1,false))],0,0,false,false,(some .reason),none,false,[1,1,3],none,none,0⟩
def Kp:TI:=⟨2,24,true,[(.v (.string (ByteArray.mk #[]))),(.v (.int .i64 0))],[(0,(1,false)),(1,(1,false))],0,0,false,false,(some .crop),none,false,[2,1],none,none,0⟩
def Kq:TI:=⟨4,40,true,[(.v (.string (ByteArray.mk #[]))),(.v (.int .i64 0)),(.v (.int .i64 0)),(.v (.int .i64 0))],[(0,(1,false)),(1,(1,false)),(2,(1,false)),(3,(1,false))],0,0,false,false,(some .duty),none,false,[2,1,1,1],none,none,0⟩
def Kr:TI:=⟨1,24,false,[(.v (.slice none 0 0))],[],34,0,true,false,none,none,false,[],none,none,0⟩
def ts:Tis:=fun t=>(bif Nat.ble t 68 then(bif Nat.ble t 33 then(bif Nat.ble t 25 then(bif Nat.ble t 9 then(bif Nat.ble t 3 then(bif Nat.beq t 3 then some ti3 else none)else(bif Nat.ble t 4 then(bif Nat.beq t 4 then some ti4 else none)else(bif Nat.beq t 9 then some ti9 else none)))else(bif Nat.ble t 23 then(bif Nat.beq t 23 then some Qt else none)else(bif Nat.ble t 24 then(bif Nat.beq t 24 then some Qu else none)else(bif Nat.beq t 25 then some Qv else none))))else(bif Nat.ble t 28 then(bif Nat.ble t 26 then(bif Nat.beq t 26 then some Qw else none)else(bif Nat.ble t 27 then(bif Nat.beq t 27 then some Qy else none)else(bif Nat.beq t 28 then some Qz else none)))else(bif Nat.ble t 31 then(bif Nat.beq t 31 then some QA else none)else(bif Nat.ble t 32 then(bif Nat.beq t 32 then some IW else none)else(bif Nat.beq t 33 then some QB else none)))))else(bif Nat.ble t 49 then(bif Nat.ble t 39 then(bif Nat.ble t 34 then(bif Nat.beq t 34 then some QC else none)else(bif Nat.ble t 36 then(bif Nat.beq t 36 then some ti3 else none)else(bif Nat.beq t 39 then some QD else none)))else(bif Nat.ble t 46 then(bif Nat.beq t 46 then some QE else none)else(bif Nat.ble t 48 then(bif Nat.beq t 48 then some QF else none)else(bif Nat.beq t 49 then some QG else none))))else(bif Nat.ble t 60 then(bif Nat.ble t 55 then(bif Nat.beq t 55 then some QH else none)else(bif Nat.ble t 58 then(bif Nat.beq t 58 then some QI else none)else(bif Nat.beq t 60 then some QJ else none)))else(bif Nat.ble t 64 then(bif Nat.ble t 62 then(bif Nat.beq t 62 then some QK else none)else(bif Nat.beq t 64 then some QL else none))else(bif Nat.ble t 66 then(bif Nat.beq t 66 then some QM else none)else(bif Nat.beq t 68 then some QN else none))))))else(bif Nat.ble t 151 then(bif Nat.ble t 122 then(bif Nat.ble t 92 then(bif Nat.ble t 71 then(bif Nat.beq t 71 then some QO else none)else(bif Nat.ble t 89 then(bif Nat.beq t 89 then some QP else none)else(bif Nat.beq t 92 then some IW else none)))else(bif Nat.ble t 118 then(bif Nat.beq t 118 then some J8 else none)else(bif Nat.ble t 121 then(bif Nat.beq t 121 then some Cr else none)else(bif Nat.beq t 122 then some J9 else none))))else(bif Nat.ble t 132 then(bif Nat.ble t 123 then(bif Nat.beq t 123 then some J_ else none)else(bif Nat.ble t 125 then(bif Nat.beq t 125 then some Ka else none)else(bif Nat.beq t 132 then some Kb else none)))else(bif Nat.ble t 142 then(bif Nat.ble t 140 then(bif Nat.beq t 140 then some Kc else none)else(bif Nat.beq t 142 then some Ke else none))else(bif Nat.ble t 145 then(bif Nat.beq t 145 then some Kf else none)else(bif Nat.beq t 151 then some Kg else none)))))else(bif Nat.ble t 178 then(bif Nat.ble t 156 then(bif Nat.ble t 152 then(bif Nat.beq t 152 then some Kh else none)else(bif Nat.ble t 154 then(bif Nat.beq t 154 then some Ki else none)else(bif Nat.beq t 156 then some Kj else none)))else(bif Nat.ble t 158 then(bif Nat.beq t 158 then some Kk else none)else(bif Nat.ble t 176 then(bif Nat.beq t 176 then some Kl else none)else(bif Nat.beq t 178 then some Km else none))))else(bif Nat.ble t 211 then(bif Nat.ble t 188 then(bif Nat.beq t 188 then some Kn else none)else(bif Nat.ble t 198 then(bif Nat.beq t 198 then some Ko else none)else(bif Nat.beq t 211 then some Cr else none)))else(bif Nat.ble t 219 then(bif Nat.ble t 214 then(bif Nat.beq t 214 then some ti3 else none)else(bif Nat.beq t 219 then some Kp else none))else(bif Nat.ble t 222 then(bif Nat.beq t 222 then some Kq else none)else(bif Nat.beq t 229 then some Kr else none)))))))
theorem Uy:cw Tryz.prog 3=some ti3:=by kernel_rfl
theorem Uz:cw Tryz.prog 4=some ti4:=by kernel_rfl
theorem UA:cw Tryz.prog 9=some ti9:=by kernel_rfl
theorem QQ:cw Tryz.prog 23=some Qt:=by kernel_rfl
theorem QR:cw Tryz.prog 24=some Qu:=by kernel_rfl
theorem QS:cw Tryz.prog 25=some Qv:=by kernel_rfl
theorem QT:cw Tryz.prog 26=some Qw:=by kernel_rfl
theorem QU:cw Tryz.prog 27=some Qy:=by kernel_rfl
theorem QV:cw Tryz.prog 28=some Qz:=by kernel_rfl
theorem QW:cw Tryz.prog 31=some QA:=by kernel_rfl
theorem QX:cw Tryz.prog 32=some IW:=by kernel_rfl
theorem QY:cw Tryz.prog 33=some QB:=by kernel_rfl
theorem QZ:cw Tryz.prog 34=some QC:=by kernel_rfl
theorem Q0:cw Tryz.prog 36=some ti3:=by kernel_rfl
theorem Q1:cw Tryz.prog 39=some QD:=by kernel_rfl
theorem Q2:cw Tryz.prog 46=some QE:=by kernel_rfl
theorem Q3:cw Tryz.prog 48=some QF:=by kernel_rfl
theorem Q4:cw Tryz.prog 49=some QG:=by kernel_rfl
theorem Q5:cw Tryz.prog 55=some QH:=by kernel_rfl
theorem Q6:cw Tryz.prog 58=some QI:=by kernel_rfl
theorem Q7:cw Tryz.prog 60=some QJ:=by kernel_rfl
theorem Q8:cw Tryz.prog 62=some QK:=by kernel_rfl
theorem Q9:cw Tryz.prog 64=some QL:=by kernel_rfl
theorem Q_:cw Tryz.prog 66=some QM:=by kernel_rfl
theorem Ra:cw Tryz.prog 68=some QN:=by kernel_rfl
theorem Rb:cw Tryz.prog 71=some QO:=by kernel_rfl
theorem Rc:cw Tryz.prog 89=some QP:=by kernel_rfl
theorem Re:cw Tryz.prog 92=some IW:=by kernel_rfl
theorem NJ:cw Tryz.prog 118=some J8:=by kernel_rfl
theorem NK:cw Tryz.prog 121=some Cr:=by kernel_rfl
theorem NL:cw Tryz.prog 122=some J9:=by kernel_rfl
theorem NM:cw Tryz.prog 123=some J_:=by kernel_rfl
theorem NN:cw Tryz.prog 125=some Ka:=by kernel_rfl
theorem NO:cw Tryz.prog 132=some Kb:=by kernel_rfl
theorem NP:cw Tryz.prog 140=some Kc:=by kernel_rfl
theorem NQ:cw Tryz.prog 142=some Ke:=by kernel_rfl
theorem NR:cw Tryz.prog 145=some Kf:=by kernel_rfl
theorem NS:cw Tryz.prog 151=some Kg:=by kernel_rfl
theorem NT:cw Tryz.prog 152=some Kh:=by kernel_rfl
theorem NU:cw Tryz.prog 154=some Ki:=by kernel_rfl
theorem NV:cw Tryz.prog 156=some Kj:=by kernel_rfl
theorem NW:cw Tryz.prog 158=some Kk:=by kernel_rfl
theorem NX:cw Tryz.prog 176=some Kl:=by kernel_rfl
theorem NY:cw Tryz.prog 178=some Km:=by kernel_rfl
theorem NZ:cw Tryz.prog 188=some Kn:=by kernel_rfl
theorem N0:cw Tryz.prog 198=some Ko:=by kernel_rfl
theorem N3:cw Tryz.prog 211=some Cr:=by kernel_rfl
theorem N4:cw Tryz.prog 214=some ti3:=by kernel_rfl
theorem N5:cw Tryz.prog 219=some Kp:=by kernel_rfl
theorem N6:cw Tryz.prog 222=some Kq:=by kernel_rfl
theorem N7:cw Tryz.prog 229=some Kr:=by kernel_rfl
theorem ai:Tis.ok ts Tryz.prog:=(Tis.ok_node (Tis.ok_node (Tis.ok_node (Tis.ok_node (Tis.ok_node (Tis.ok_leaf Uy) (Tis.ok_node (Tis.ok_leaf Uz) (Tis.ok_leaf UA))) (Tis.ok_node (Tis.ok_leaf QQ) (Tis.ok_node (Tis.ok_leaf QR) (Tis.ok_leaf QS)))) (Tis.ok_node (Tis.ok_node (Tis.ok_leaf QT) (Tis.ok_node (Tis.ok_leaf QU) (Tis.ok_leaf QV))) (Tis.ok_node (Tis.ok_leaf QW) (Tis.ok_node (Tis.ok_leaf QX) (Tis.ok_leaf QY))))) (Tis.ok_node (Tis.ok_node (Tis.ok_node (Tis.ok_leaf QZ) (Tis.ok_node (Tis.ok_leaf Q0) (Tis.ok_leaf Q1))) (Tis.ok_node (Tis.ok_leaf Q2) (Tis.ok_node (Tis.ok_leaf Q3) (Tis.ok_leaf Q4)))) (Tis.ok_node (Tis.ok_node (Tis.ok_leaf Q5) (Tis.ok_node (Tis.ok_leaf Q6) (Tis.ok_leaf Q7))) (Tis.ok_node (Tis.ok_node (Tis.ok_leaf Q8) (Tis.ok_leaf Q9)) (Tis.ok_node (Tis.ok_leaf Q_) (Tis.ok_leaf Ra)))))) (Tis.ok_node (Tis.ok_node (Tis.ok_node (Tis.ok_node (Tis.ok_leaf Rb) (Tis.ok_node (Tis.ok_leaf Rc) (Tis.ok_leaf Re))) (Tis.ok_node (Tis.ok_leaf NJ) (Tis.ok_node (Tis.ok_leaf NK) (Tis.ok_leaf NL)))) (Tis.ok_node (Tis.ok_node (Tis.ok_leaf NM) (Tis.ok_node (Tis.ok_leaf NN) (Tis.ok_leaf NO))) (Tis.ok_node (Tis.ok_node (Tis.ok_leaf NP) (Tis.ok_leaf NQ)) (Tis.ok_node (Tis.ok_leaf NR) (Tis.ok_leaf NS))))) (Tis.ok_node (Tis.ok_node (Tis.ok_node (Tis.ok_leaf NT) (Tis.ok_node (Tis.ok_leaf NU) (Tis.ok_leaf NV))) (Tis.ok_node (Tis.ok_leaf NW) (Tis.ok_node (Tis.ok_leaf NX) (Tis.ok_leaf NY)))) (Tis.ok_node (Tis.ok_node (Tis.ok_leaf NZ) (Tis.ok_node (Tis.ok_leaf N0) (Tis.ok_leaf N3))) (Tis.ok_node (Tis.ok_node (Tis.ok_leaf N4) (Tis.ok_leaf N5)) (Tis.ok_node (Tis.ok_leaf N6) (Tis.ok_leaf N7)))))))
@[go_sem] theorem ts_3:ts 3=some ti3:=(rfl)
@[go_sem] theorem ts_4:ts 4=some ti4:=(rfl)
@[go_sem] theorem ts_9:ts 9=some ti9:=(rfl)
@[go_sem] theorem ts_23:ts 23=some Qt:=(rfl)
@[go_sem] theorem ts_24:ts 24=some Qu:=(rfl)
@[go_sem] theorem ts_25:ts 25=some Qv:=(rfl)
@[go_sem] theorem ts_26:ts 26=some Qw:=(rfl)
@[go_sem] theorem ts_27:ts 27=some Qy:=(rfl)
@[go_sem] theorem ts_28:ts 28=some Qz:=(rfl)
@[go_sem] theorem ts_31:ts 31=some QA:=(rfl)
@[go_sem] theorem ts_32:ts 32=some IW:=(rfl)
@[go_sem] theorem ts_33:ts 33=some QB:=(rfl)
@[go_sem] theorem ts_34:ts 34=some QC:=(rfl)
@[go_sem] theorem ts_36:ts 36=some ti3:=(rfl)
@[go_sem] theorem ts_39:ts 39=some QD:=(rfl)
@[go_sem] theorem ts_46:ts 46=some QE:=(rfl)
@[go_sem] theorem ts_48:ts 48=some QF:=(rfl)
@[go_sem] theorem ts_49:ts 49=some QG:=(rfl)
@[go_sem] theorem ts_55:ts 55=some QH:=(rfl)
@[go_sem] theorem ts_58:ts 58=some QI:=(rfl)
@[go_sem] theorem ts_60:ts 60=some QJ:=(rfl)
@[go_sem] theorem ts_62:ts 62=some QK:=(rfl)
@[go_sem] theorem ts_64:ts 64=some QL:=(rfl)
@[go_sem] theorem ts_66:ts 66=some QM:=(rfl)
@[go_sem] theorem ts_68:ts 68=some QN:=(rfl)
@[go_sem] theorem ts_71:ts 71=some QO:=(rfl)
@[go_sem] theorem ts_89:ts 89=some QP:=(rfl)
@[go_sem] theorem ts_92:ts 92=some IW:=(rfl)
@[go_sem] theorem abS:ts 118=some J8:=(rfl)
@[go_sem] theorem abT:ts 121=some Cr:=(rfl)
@[go_sem] theorem abU:ts 122=some J9:=(rfl)
@[go_sem] theorem abV:ts 123=some J_:=(rfl)
@[go_sem] theorem abW:ts 125=some Ka:=(rfl)
@[go_sem] theorem abX:ts 132=some Kb:=(rfl)
@[go_sem] theorem abY:ts 140=some Kc:=(rfl)
@[go_sem] theorem abZ:ts 142=some Ke:=(rfl)
@[go_sem] theorem ab0:ts 145=some Kf:=(rfl)
@[go_sem] theorem ab1:ts 151=some Kg:=(rfl)
@[go_sem] theorem ab2:ts 152=some Kh:=(rfl)
@[go_sem] theorem ab3:ts 154=some Ki:=(rfl)
@[go_sem] theorem ab4:ts 156=some Kj:=(rfl)
@[go_sem] theorem ab5:ts 158=some Kk:=(rfl)
@[go_sem] theorem ab6:ts 176=some Kl:=(rfl)
@[go_sem] theorem ab7:ts 178=some Km:=(rfl)
@[go_sem] theorem ab8:ts 188=some Kn:=(rfl)
@[go_sem] theorem ab9:ts 198=some Ko:=(rfl)
@[go_sem] theorem ab_:ts 211=some Cr:=(rfl)
@[go_sem] theorem aca:ts 214=some ti3:=(rfl)
@[go_sem] theorem acb:ts 219=some Kp:=(rfl)
@[go_sem] theorem acd:ts 222=some Kq:=(rfl)
@[go_sem] theorem ace:ts 229=some Kr:=(rfl)
attribute [go_sem] ti3 ti4 ti9 Qt Qu Qv Qw Qy Qz QA IW QB QC QD QE QF QG QH QI QJ QK QL QM QN QO QP J8 Cr J9 J_ Ka Kb Kc Ke Kf Kg Kh Ki Kj Kk Kl Km Kn Ko Kp Kq Kr
theorem mixed:Tryz.prog.follows .mixedOrders=true:=by kernel_rfl
def lA:List SV->Option Con
 | [.v (.iface t (.int .i64 e))] =>bif Nat.beq t 214 then some (.det True (.i e))else none
 |_=>none
theorem zX:FnOk Tryz.prog 106 lA:=by
 have hG:ConsOk Tryz.prog (mkG [] []):=am (by simp) (by simp);refine av [.o] mixed ai hG (fn:=Tryz.f106) (c:=aa Tryz.f106) kr kr kr kr fun l con h hp=>?_;unfold lA at h;split at h
 ·rename_i t e;cases ht:Nat.beq t 214 with
  |false=>rw[ht]at h;cases h
  |true=>
   rw[ht]at h;cases h;have ht':=Nat.eq_of_beq_eq_true ht;subst ht';refine⟨nbl rfl,L0,by unfold aa Tryz.f106;simp only[ak,and_self],?_⟩;unfold aa Tryz.f106;simp only[go_sem,true_imp_iff,false_imp_iff,Nat.reduceBEq,Nat.reduceLeDiff,Nat.reduceAdd,Nat.reduceSub,Nat.reduceMul,true_and,and_true,implies_true,reduceCtorEq]
 ·cases h
def UB:Value->Option SV
 | .iface t (.int .i64 e) =>bif Nat.beq t 214 then some (.i e)else none
 |_=>none
theorem N8:G5 Tryz.prog 105 UB:=by
 obtain⟨fn,hfn,hbody,hn,hres⟩:∃ fn,Tryz.prog.funcs[105]? =some fn/\fn.body=some (aa Tryz.f105)/\fn.ntmps=7/\fn.results= #[]:=⟨Tryz.f105,by kernel_rfl,by kernel_rfl,by kernel_rfl,by kernel_rfl⟩;have hG:ConsOk Tryz.prog (mkG [(106,lA)] []):=am (by
  intro x hx;simp only[List.mem_cons,List.not_mem_nil,or_false]at hx;rcases hx with rfl;exact zX) (by simp)
 refine⟨fun args w=>by kernel_rfl,fun p w=>?_,?_⟩
 ·refine callsDIn_of_wpSIn hfn hbody trivial fun c₀ cs hu=>?_;unfold aa Tryz.f105;refine wpSIn_seq (wpSIn_region ?_);simp[wpOpsSIn,go_sem,recoverD,hu,hn,Exit.thenS,Oper.about,Region.wanted];refine wpSIn_seq (wpSIn_region ?_);simp[wpOpsSIn,go_sem,recoverD,hu,Exit.thenS,Oper.about,Region.wanted];refine wpSIn_cond (t:=false) (by simp[Act.eval]) ?_;simp only[Bool.false_eq_true,if_false];refine wpSIn_of_wpIn rfl (wpIn_skip ?_);cases c₀;simp_all [bodyPostS,results]
 ·intro x s hx F own w h id hd b y hfw hp hob ho hpb;unfold UB at hx;split at hx
  ·rename_i t e;cases ht:Nat.beq t 214 with
   |false=>rw[ht]at hx;cases hx
   |true=>
    rw[ht]at hx;cases hx;have ht':=Nat.eq_of_beq_eq_true ht;subst ht';refine callsDIn_of_wpSIn hfn hbody trivial fun c₀ cs hu=>?_;unfold aa Tryz.f105;refine wpSIn_seq (wpSIn_region ?_);simp[wpOpsSIn,go_sem,recoverD,hu,hn,Exit.thenS,Oper.about,Region.wanted];refine wpSIn_seq (wpSIn_region ?_);simp[wpOpsSIn,go_sem,recoverD,hu,Exit.thenS,Oper.about,Region.wanted];refine wpSIn_cond (t:=true) (by simp[Act.eval]) ?_;simp only[if_true];refine wpSIn_of_wpIn rfl ?_;have hr:StRel F { w:=w,own:=own} 7 own ⟨[(0,.ptr id 0),(1,.v (.iface 214 (.int .i64 e)))],h⟩ { tmps:= #[.pointer (some ⟨b,0,none⟩),.iface 214 (.int .i64 e),.iface 214 (.int .i64 e),.iface 214 (.int .i64 e),.bool true,undef,undef],defers:=[]} w:=by
     refine⟨rfl,Dfr.nil,hp,Fr.refl { w:=w,own:=own},fun t=>?_⟩;rw[oD];by_cases h0:0=t
     ·subst h0;rw[if_pos rfl];exact .ptr ho hpb
     ·rw[if_neg h0,oD];by_cases h1:1=t
      ·subst h1;rw[if_pos rfl];exact .v _
      ·rw[if_neg h1];exact .any _
    refine wpIn_mono (vE (ts:=ts) (L:=L0) (Q:=fun st=>st.h=aW h id (.cells [.i e])) mixed ai hG kr ?_ hr) ?_
    ·simp only[go_sem,hob,vD (h:=h) (i:=id) (o:=.cells [.v (.int .i64 e)]) rfl hfw,lA,Nat.reduceBEq,Nat.reduceLeDiff,Nat.reduceAdd,true_and,and_true,true_imp_iff]
    ·rintro ex a' w' ⟨rfl,own1,st1,hst1,hh⟩;have hd0:a'.defers=[]:=by
      obtain⟨ms,Ds,q0,q1,q2,q3⟩:=hst1.defers;cases Ds with
      |nil=>rw[q0];simp at q1;simp[q1]
      |cons D r=>
       obtain⟨m1,m2,_⟩:=q3 D (by simp);have:=hp.foreign D m2;simp only at m1;omega
     refine⟨hd0,.panicking [{ v:=.iface 214 (.int .i64 e),recovered:=true}],?_,_,by simp[results,hres];rfl,⟨_,rfl⟩,rfl,own1,hh▸hst1.hp,hst1.fr⟩;cases c₀;simp_all
  ·cases hx
attribute [go_sem] lA
abbrev SV.u (n:Nat):SV:=.v (.int .u64 (n:Int))
def Fc (ps:List (Nat×(List SV->Option Con)))(os:List (Nat×(List SV->List Ob->Option HCon)))(Y:List SV->Res->Option YCon):Cons:=⟨mkP ps,mkO os,Y⟩
@[go_sem] theorem acf {ps:List (Nat×(List SV->Option Con))}{os:List (Nat×(List SV->List Ob->Option HCon))}{Y:List SV->Res->Option YCon}:(Fc ps os Y).p=mkP ps:=(rfl)
@[go_sem] theorem acg {ps:List (Nat×(List SV->Option Con))}{os:List (Nat×(List SV->List Ob->Option HCon))}{Y:List SV->Res->Option YCon}:(Fc ps os Y).o=mkO os:=(rfl)
@[go_sem] theorem ach {ps:List (Nat×(List SV->Option Con))}{os:List (Nat×(List SV->List Ob->Option HCon))}{Y:List SV->Res->Option YCon}:(Fc ps os Y).y=Y:=(rfl)
theorem Fd {P:Program}{ps:List (Nat×(List SV->Option Con))}{os:List (Nat×(List SV->List Ob->Option HCon))}{Y:List SV->Res->Option YCon}(h1:∀ x∈ps,FnOk P x.1 x.2)(h2:∀ x∈os,FnOkO P x.1 x.2)(h3:YOk P Y):ConsOk P (Fc ps os Y):=⟨IS ps h1,IT os h2,h3⟩
def C90:List SV->List Ob->Option HCon:=fun l h=>noH h ((pU fun n=>pU fun d=>pE { α:=Unit,pre:=True,post:=fun _=>True,res:=fun _=>.ret (.fn 271 [] [.ptr 0 0,.ptr 1 0]) [.cells [.v (.int .u64 n)],.cells [.v (.int .u64 d)]]}) l)
theorem UC:FnOkO Tryz.prog 268 C90:=by
 have hG:ConsOk Tryz.prog (mkG [] []):=am (by simp) (by simp);refine GU mixed ai hG (fn:=Tryz.f268) (c:=aa Tryz.f268) kr kr kr kr fun l o con h hp=>?_;unfold C90 at h;obtain⟨rfl,h⟩:=Qo h;obtain⟨n,l0,rfl,h0⟩:=zW h;obtain⟨d,l1,rfl,h1⟩:=zW h0;obtain⟨rfl,rfl⟩:=Ck h1;refine⟨nbl rfl,L0,by unfold aa Tryz.f268;simp only[ak,and_self],?_⟩;unfold aa Tryz.f268;simp only[go_sem,true_imp_iff,decide_eq_true_eq,Nat.reduceBEq,Nat.reduceLeDiff,Nat.reduceAdd,Nat.reduceSub,Nat.reduceMul,true_and,and_true,implies_true];refine⟨(),_,_,[0,1],rfl,?_⟩;simp only[go_sem,Nat.reduceBEq,Nat.reduceLeDiff,Nat.reduceAdd,true_and,and_true];exact⟨rfl,rfl⟩
def Dn:Nat->Nat->Nat->List Nat
 |0,n,d=>if n=0 then []else [n,d]
 |f+1,n,d=>if n=0 then []else n::(if n % max d 1=0 then [d]else Dn f d (n % max d 1))
def rR (f n d:Nat):List (List SV):=(Dn f n d).map fun x=>[SV.u x]
theorem N9 (f d:Nat):rR f 0 d=[]:=by cases f <;>rfl
theorem N_ {f n d:Nat}(hn:n≠0)(hf:d<=f):∃ T,rR f n d=[SV.u n]::T/\(n % max d 1=0->T=[[SV.u d]])/\(n % max d 1≠0->∃ f',T=rR f' d (n % max d 1)/\n % max d 1<=f'/\n % max d 1<d):=by
 cases f with
 |zero=>
  have hd:d=0:=by omega
  subst hd;refine⟨[[SV.u 0]],by simp[rR,Dn,hn],fun _=>rfl,fun h=>?_⟩;exfalso;apply h;simp[Nat.mod_one]
 |succ f=>
  by_cases h0:n % max d 1=0
  ·exact⟨[[SV.u d]],by simp[rR,Dn,hn,h0],fun _=>rfl,fun h=>absurd h0 h⟩
  ·refine⟨rR f d (n % max d 1),by simp[rR,Dn,hn,h0],fun h=>absurd h h0,fun _=>⟨f,rfl,?_⟩⟩;have hlt:n % max d 1<max d 1:=Nat.mod_lt _ (by omega);have hd:1<=d:=by
    rcases Nat.eq_zero_or_pos d with h|h
    ·subst h;exfalso;apply h0;simp[Nat.mod_one]
    ·exact h
   omega
theorem Oa (n d:Nat):((n:Int).tmod (if(d:Int) <1 then 1 else(d:Int)))=((n % max d 1:Nat):Int):=by
 have e:(if(d:Int) <1 then(1:Int)else(d:Int))=((max d 1:Nat):Int):=by split <;>omega
 rw[e,Int.tmod_eq_emod_of_nonneg (by omega)];rfl
open Classical in
theorem UD (n0 d0:Nat):GY Tryz.prog 271 (fun y=>[y,.ptr 1 0,.ptr 2 0]) [.cells [SV.u n0],.cells [SV.u d0]] (rR d0 n0 d0):=by
 refine SG (fun r hr hy=>?_) (fun args w=>by kernel_rfl);have hG:ConsOk Tryz.prog (Fc [] [] (itY (rR d0 n0 d0) r)):=Fd (by simp) (by simp) hy;refine⟨fun l h=>if l=[.os 0,.ptr 1 0,.ptr 2 0]/\h=[.ab (r 1),.cells [SV.u n0],.cells [SV.u d0]]then some { α:=Nat,pre:=True,post:=fun j=>j=0\/j=(rR d0 n0 d0).length+1,res:=fun j=>.ret (.tup []) [.ab (r j),.dead,.dead]}else none,
  ?_,_,if_pos ⟨rfl,rfl⟩,trivial,fun j hj=>⟨_,j,_,rfl,hj⟩⟩
 refine GU mixed ai hG (fn:=Tryz.f271) (c:=aa Tryz.f271) kr kr kr kr fun l o con h hp=>?_;split at h
 ·rename_i hlo;obtain⟨rfl,rfl⟩:=hlo;cases h;refine⟨nbl rfl,fun id st=>bif Nat.beq id 0 then some { α:=Nat×Bool,pre:=lk 0 st.t=.os 0/\lk 1 st.t=.ptr 1 0/\lk 2 st.t=.ptr 2 0/\st.h=[.ab (r 1),.cells [SV.u n0],.cells [SV.u d0]],post:=fun j=>j.1=0\/j.1=(rR d0 n0 d0).length+1,ex:=fun j=>bif j.2 then .ret else .normal,out:=fun j=>⟨[],[.ab (r j.1),.dead,.dead]⟩:LCon}else none,?_,?_⟩
  ·unfold aa Tryz.f271;simp only[ak,true_and,and_true];refine GV mixed ai hG kr fun st lc hC hp=>?_;simp only[go_sem,Nat.reduceBEq,Option.some.injEq]at hC;subst hC;obtain⟨t,h⟩:=st;dsimp only at hp;obtain⟨h0,h1,h2,rfl⟩:=hp;refine⟨Nat×Nat×Nat×Nat,fun x=>⟨[(0,.os 0),(1,.ptr 1 0),(2,.ptr 2 0)],[.ab (r (x.1+1)),.cells [SV.u x.2.2.1],.cells [SV.u x.2.2.2]]⟩,fun x=>x.2.2.2<=x.2.1/\(rR d0 n0 d0).drop x.1=rR x.2.1 x.2.2.1 x.2.2.2/\x.1<=(rR d0 n0 d0).length,fun x=>x.2.2.2,(0,d0,n0,d0),[0,1,2],⟨Nat.le_refl _,rfl,Nat.zero_le _⟩,Nat.le_refl _,?_,?_⟩
   ·simp only[go_sem,h0,h1,h2,Nat.reduceBEq,Nat.reduceLeDiff,Nat.reduceAdd,true_and,and_true];decide
   ·rintro⟨k,f,n,d⟩ ⟨hf,hdrop,hk⟩;simp only at hf hdrop hk;refine⟨L0,_,by simp only[ak,and_self],fun _ _ q=>q,?_⟩;simp only[go_sem,NE hr,true_imp_iff,decide_eq_true_eq,Oa,Bool.false_eq_true,false_imp_iff,Nat.reduceBEq,Nat.reduceLeDiff,Nat.reduceAdd,Nat.reduceSub,Nat.reduceMul,true_and,and_true,implies_true];have hget:∀ (l:List (List SV)) (j:Nat),l=(rR d0 n0 d0).drop k->(rR d0 n0 d0)[k+j]? =l[j]?:=fun l j e=>by rw[e,List.getElem?_drop]
    have hlen:(rR f n d).length=(rR d0 n0 d0).length - k:=by rw[<-hdrop,List.length_drop]
    refine⟨fun hn=>?_,fun hn=>?_⟩
    ·have hn':n≠0:=by simpa using hn
     obtain⟨T,e1,e2,e3⟩:=N_ hn' hf;have hT:(rR d0 n0 d0).drop (k+1)=T:=by rw[<-List.drop_drop,hdrop,e1];rfl
     have h0':=hget _ 0 hdrop.symm;rw[e1]at h0';have hk1:k+1<=(rR d0 n0 d0).length:=by
      have:=(List.getElem?_eq_some_iff.1 h0').1;omega
     refine⟨h0',⟨fun _=>⟨by split <;>omega,rfl,fun h2=>?_,fun h2=>?_⟩,fun h2=>?_⟩,?_⟩
     ·have h3:n % max d 1=0:=by
       have:=eq_of_beq h2;generalize n % max d 1=q at this |-;omega
      have hT2:=e2 h3;have hl2:(rR d0 n0 d0).length=k+2:=by
       have:=congrArg List.length hT;rw[hT2,List.length_drop]at this;simp at this;omega
      refine⟨?_,⟨(k+1+2,true),[0,1,2],.inr (by rw[hl2]),rfl,⟨rfl,rfl,rfl⟩,by simp[Dg,EJ,BJ,unp,al,co,ve,vQ]⟩,⟨(0,true),[0,1,2],.inl rfl,rfl,⟨rfl,rfl,rfl⟩,by simp[Dg,EJ,BJ,unp,al,co,ve,vQ]⟩⟩;have:(rR d0 n0 d0)[k+1]? =T[0]?:=by rw[<-hT,List.getElem?_drop]
      rw[this,hT2];rfl
     ·have h3:n % max d 1≠0:=fun e=>by rw[e]at h2;simp at h2
      obtain⟨f',m1,m2,m3⟩:=e3 h3;exact⟨(k+1,f',d,n % max d 1),[0,1,2],⟨m2,by rw[hT,m1],hk1⟩,m3,⟨rfl,rfl,rfl⟩,by simp[Dg,EJ,BJ,unp,al,co,ve,vQ,nth,nN,ren,wkL,Gf]⟩
     ·exact absurd hn (by rw[h2];simp)
     ·exact⟨(0,false),[0,1,2],.inl rfl,rfl,⟨rfl,rfl,rfl⟩,by simp[Dg,EJ,BJ,unp,al,co,ve,vQ]⟩
    ·have hn':n=0:=by simpa using hn
     subst hn';rw[N9]at hlen;simp at hlen;exact⟨by simpa using hn,(k+1,false),[0,1,2],.inr (by show k+1=_;omega),rfl,⟨rfl,rfl,rfl⟩,by simp[Dg,EJ,BJ,unp,al,co,ve,vQ]⟩
  ·unfold aa Tryz.f271;simp only[go_sem,true_imp_iff,decide_eq_true_eq,Nat.reduceBEq,Nat.reduceLeDiff,Nat.reduceAdd,Nat.reduceSub,Nat.reduceMul,true_and,and_true,implies_true];rintro⟨j,b⟩ hj;cases b
   ·simp only[go_sem];exact⟨j,_,_,[0,1,2],hj,rfl,Nat.le_refl 3,by simp only[go_sem,Nat.reduceBEq,Nat.reduceLeDiff,Nat.reduceAdd,true_and,and_true];decide⟩
   ·simp only[go_sem];exact⟨j,_,_,[0,1,2],hj,rfl,Nat.le_refl 3,by simp only[go_sem,Nat.reduceBEq,Nat.reduceLeDiff,Nat.reduceAdd,true_and,and_true];decide⟩
 ·cases h
def Rf (n d:Nat):Nat:=if d=0 then n else(Dn d n d).getLastD d
def C83:List SV->Option Con:=pU fun n=>pU fun d=>pE (.det (0<=n/\0<=d) (SV.u (Rf n.toNat d.toNat)))
theorem UE:FnOk Tryz.prog 262 C83:=by
 have hG:ConsOk Tryz.prog (mkG [] [(268,C90)]):=am (by simp) (by
  intro x hx;simp only[List.mem_cons,List.not_mem_nil,or_false]at hx;rcases hx with rfl;exact UC)
 refine Ci false mixed ai hG (fn:=Tryz.f262) (c:=aa Tryz.f262) kr kr kr kr fun l con h hp=>?_;unfold C83 at h;obtain⟨n',l0,rfl,h0⟩:=zW h;obtain⟨d',l1,rfl,h1⟩:=zW h0;obtain⟨rfl,rfl⟩:=Ck h1;clear h h0 h1;obtain⟨hn,hd⟩:=hp;obtain⟨n,rfl⟩:=Int.eq_ofNat_of_zero_le hn;obtain⟨d,rfl⟩:=Int.eq_ofNat_of_zero_le hd;refine⟨nbl rfl,fun id st=>bif Nat.beq id 0 then some { α:=Unit,pre:=st.h=[.cells [SV.u d],.cells [SV.u n],.cells [SV.u d]]/\lk 12 st.t=.fn 271 [] [.ptr 1 0,.ptr 2 0]/\lk 4 st.t=.ptr 0 0,post:=fun _=>True,ex:=fun _=>.normal,out:=fun _=>⟨[(4,.ptr 0 0)],[.cells [SV.u ((Dn d n d).getLastD d)],.dead,.dead]⟩:LCon}else none,?_,?_⟩
 ·unfold aa Tryz.f262;simp only[ak,true_and,and_true];refine G1 mixed ai hG (by decide) (by decide) kr kr fun st lc hC hp=>?_;simp only[go_sem,Nat.reduceBEq,Option.some.injEq]at hC;subst hC;obtain⟨t,h⟩:=st;dsimp only at hp;obtain⟨rfl,h12,h4⟩:=hp;refine⟨271,[.ptr 1 0,.ptr 2 0],rR d n d,Nat,[(4,.ptr 0 0)],fun v=>[.cells [SV.u v],.dead,.dead],fun k v=>v=((Dn d n d).take k).getLastD d,fun _ _=>False,d,[0,1,2],h12,rfl,Nat.le_refl _,?_,UD n d,?_,?_,fun _ h=>h.elim,fun _ _ h=>h.elim⟩
  ·show Sub [0,1,2] 3 ⟨t,[.cells [SV.u d],.dead,.dead]⟩ ⟨[(4,.ptr 0 0)],[.cells [SV.u d],.dead,.dead]⟩;simp only[go_sem,h4,Nat.reduceBEq,Nat.reduceLeDiff,Nat.reduceAdd,true_and,and_true];decide
  ·intro k y args hk hI;unfold rR at hk;rw[List.getElem?_map,Option.map_eq_some_iff]at hk;obtain⟨x,hx,rfl⟩:=hk;refine⟨rfl,L0,_,fun l=>by simp only[ak],fun l=>by simp only[ak],fun _ _ q=>q,?_⟩;show exec ts _ L0 _ ⟨[(13,SV.u x),(4,SV.ptr 0 0)],[.cells [SV.u y],.dead,.dead]⟩ _;simp only[go_sem,true_imp_iff,Nat.reduceBEq,Nat.reduceLeDiff,Nat.reduceAdd,true_and,and_true];refine⟨x,[0,1,2],?_,Nat.le_refl 3,?_⟩
   ·have hlt:=(List.getElem?_eq_some_iff.1 hx).1;have hx2:=(List.getElem?_eq_some_iff.1 hx).2;show x=((Dn d n d).take (k+1)).getLastD d;rw[List.take_succ_eq_append_getElem hlt,hx2];simp[List.getLastD_concat]
   ·simp only[go_sem,Nat.reduceBEq,Nat.reduceLeDiff,Nat.reduceAdd,true_and,and_true];decide
  ·intro y hI;refine⟨(),[0,1,2],trivial,rfl,Nat.le_refl _,?_⟩;have hy:y=(Dn d n d).getLastD d:=by rw[hI,List.take_of_length_le (by simp[rR])]
   subst hy;show Sub [0,1,2] 3 ⟨[(4,.ptr 0 0)],[.cells [SV.u _],.dead,.dead]⟩ ⟨[(4,.ptr 0 0)],[.cells [SV.u _],.dead,.dead]⟩;simp only[go_sem,Nat.reduceBEq,Nat.reduceLeDiff,Nat.reduceAdd,true_and,and_true];decide
 ·unfold aa Tryz.f262;simp only[go_sem,C90,true_imp_iff,decide_eq_true_eq,Bool.false_eq_true,false_imp_iff,Nat.reduceBEq,Nat.reduceLeDiff,Nat.reduceAdd,Nat.reduceSub,Nat.reduceMul,true_and,and_true,implies_true];refine⟨fun h=>?_,fun h _ _=>?_⟩
  ·have h':d=0:=by simpa using h
   simp[Rf,h']
  ·have h':d≠0:=by simpa using h
   simp[Rf,h']
attribute [go_sem] C83
end Go.Sx
end
section
namespace Go.Sx
open Go.RowKit
inductive NilS:St->St->Prop where
 |refl (st:St):NilS st st
 |cell {st:St} {t:List (Nat×SV)} {h:List Ob} {i j:Nat} {l:List SV} (o:Ob):NilS st ⟨t,h⟩->al h i=.cells l->l[j]? =some (.v (.slice none 0 0))->((∃ k,o=.row k [])\/∃ k,o=.grid k [])->NilS st ⟨t,aW h i (.cells (l.set j (.os h.length)))++[o]⟩
 |slot {st:St} {t:List (Nat×SV)} {h:List Ob} {i:Nat} (o:Ob):NilS st ⟨t,h⟩->lk i t=.v (.slice none 0 0)->((∃ k,o=.row k [])\/∃ k,o=.grid k [])->NilS st ⟨(i,.os h.length)::t,h++[o]⟩
 |slotE {st:St} {t:List (Nat×SV)} {h:List Ob} {i:Nat} (k:Tag):NilS st ⟨t,h⟩->lk i t=.e0->NilS st ⟨(i,.os h.length)::t,h++[.row k []]⟩
section
variable {P:Program}{F:Nat->Prop}{w0:Bs}{N:Nat}
theorem Ec (h:List Ob)(o:Ob):al (h++[o]) h.length=o:=by rw[re,if_neg (by omega)];simp[al]
theorem Ks {own:Own}{h:List Ob}{a:Act}{w:World}{t:List (Nat×SV)}(hr:StRel F w0 N own ⟨t,h⟩ a w)(o:Ob)(ho:(∃ k,o=.row k [])\/∃ k,o=.grid k []):
  ∃ own',StRel F w0 N own' ⟨t,h++[o]⟩ a w/\(∀ id hd,own id=some hd->own' id=some hd)/\own' h.length=some { v:=.slice none 0 0}:=by
 let own':Own:=fun id=>if id=h.length then some { v:=.slice none 0 0}else own id
 have hsub:∀ id hd,own id=some hd->own' id=some hd:=fun id hd e=>by
  have:id≠h.length:=by have:=hr.hp.dom id hd e;simp only at this;omega
  simp only[own',if_neg this];exact e
 have hinv:∀ id hd b,own' id=some hd->b∈hd.bs->own id=some hd:=fun id hd b e hb=>by
  by_cases hi:id=h.length
  ·simp only[own',if_pos hi,Option.some.injEq]at e;subst e;cases hb
  ·simpa only[own',if_neg hi]using e
 have hc:Carries F own w F own' w:=⟨fun id hd e=>⟨hd,hsub id hd e,.refl _⟩,fun b _ hn=>⟨by
  rintro (hf| ⟨id,hd,e,hb⟩)
  ·exact hn (.inl hf)
  ·exact hn (.inr ⟨id,hd,hinv id hd b e hb,hb⟩),rfl⟩⟩
 refine⟨own',⟨hr.size,hr.defers,⟨fun id hd e=>?_,hr.hp.foreign,fun id hd b e hb=>hr.hp.apart id hd b (hinv id hd b e hb) hb,fun i j hi hj b e1 e2 b1 b2=>hr.hp.inj i j hi hj b (hinv i hi b e1 b1) (hinv j hj b e2 b2) b1 b2,fun id hd b e hb=>hr.hp.lt id hd b (hinv id hd b e hb) hb,fun id hd=>?_⟩,
  ⟨fun id hd e=>?_,fun id hd b e hb=>hr.fr.base id hd b (hinv id hd b e hb) hb,hr.fr.os,hr.fr.tape,hr.fr.output,hr.fr.size,hr.fr.block⟩,fun t=>(hr.slots t).carry hc⟩,hsub,by simp[own']⟩
 ·simp only[List.length_append,List.length_cons,List.length_nil];by_cases hi:id=h.length
  ·omega
  ·simp only[own',if_neg hi]at e;have:=hr.hp.dom id hd e;simp only at this;omega
 ·simp only at hd |-;by_cases hi:id<h.length
  ·rw[re,if_pos hi]at hd |-;obtain⟨hd',e1,e2⟩:=hr.hp.obs id hd;exact⟨hd',hsub id hd' e1,e2.carry hc (Nat.le_refl _) fun _ _=>rfl⟩
  ·by_cases hi2:id=h.length
   ·subst hi2;rw[Ec];refine⟨_,by simp[own'];rfl,?_⟩;rcases ho with⟨k,rfl⟩ | ⟨k,rfl⟩
    ·exact .inl ⟨none,rfl,rfl,rfl⟩
    ·exact .inl ⟨rfl,rfl,rfl,rfl⟩
   ·rw[pe (by simp;omega)]at hd;cases hd
 ·obtain⟨hd',e1,e2⟩:=hr.fr.ids id hd e;exact⟨hd',hsub id hd' e1,e2⟩
theorem Oc {own:Own}{h:List Ob}{a:Act}{w:World}{t:List (Nat×SV)}(hr:StRel F w0 N own ⟨t,h⟩ a w)(k:Tag)(ad:Option Addr):
  ∃ own',StRel F w0 N own' ⟨t,h++[.row k []]⟩ a w/\(∀ id hd,own id=some hd->own' id=some hd)/\own' h.length=some { v:=.slice ad 0 0}:=by
 let own':Own:=fun id=>if id=h.length then some { v:=.slice ad 0 0}else own id
 have hsub:∀ id hd,own id=some hd->own' id=some hd:=fun id hd e=>by
  have:id≠h.length:=by have:=hr.hp.dom id hd e;simp only at this;omega
  simp only[own',if_neg this];exact e
 have hinv:∀ id hd b,own' id=some hd->b∈hd.bs->own id=some hd:=fun id hd b e hb=>by
  by_cases hi:id=h.length
  ·simp only[own',if_pos hi,Option.some.injEq]at e;subst e;cases hb
  ·simpa only[own',if_neg hi]using e
 have hc:Carries F own w F own' w:=⟨fun id hd e=>⟨hd,hsub id hd e,.refl _⟩,fun b _ hn=>⟨by
  rintro (hf| ⟨id,hd,e,hb⟩)
  ·exact hn (.inl hf)
  ·exact hn (.inr ⟨id,hd,hinv id hd b e hb,hb⟩),rfl⟩⟩
 refine⟨own',⟨hr.size,hr.defers,⟨fun id hd e=>?_,hr.hp.foreign,fun id hd b e hb=>hr.hp.apart id hd b (hinv id hd b e hb) hb,fun i j hi hj b e1 e2 b1 b2=>hr.hp.inj i j hi hj b (hinv i hi b e1 b1) (hinv j hj b e2 b2) b1 b2,fun id hd b e hb=>hr.hp.lt id hd b (hinv id hd b e hb) hb,fun id hd=>?_⟩,
  ⟨fun id hd e=>?_,fun id hd b e hb=>hr.fr.base id hd b (hinv id hd b e hb) hb,hr.fr.os,hr.fr.tape,hr.fr.output,hr.fr.size,hr.fr.block⟩,fun t=>(hr.slots t).carry hc⟩,hsub,by simp[own']⟩
 ·simp only[List.length_append,List.length_cons,List.length_nil];by_cases hi:id=h.length
  ·omega
  ·simp only[own',if_neg hi]at e;have:=hr.hp.dom id hd e;simp only at this;omega
 ·simp only at hd |-;by_cases hi:id<h.length
  ·rw[re,if_pos hi]at hd |-;obtain⟨hd',e1,e2⟩:=hr.hp.obs id hd;exact⟨hd',hsub id hd' e1,e2.carry hc (Nat.le_refl _) fun _ _=>rfl⟩
  ·by_cases hi2:id=h.length
   ·subst hi2;rw[Ec];refine⟨_,by simp[own'];rfl,?_⟩;exact .inl ⟨ad,rfl,rfl,rfl⟩
   ·rw[pe (by simp;omega)]at hd;cases hd
 ·obtain⟨hd',e1,e2⟩:=hr.fr.ids id hd e;exact⟨hd',hsub id hd' e1,e2⟩
theorem NilS.rel {st st':St}(hn:NilS st st'){own:Own}{a:Act}{w:World}(hr:StRel F w0 N own st a w):∃ own',StRel F w0 N own' st' a w:=by
 induction hn with
 |refl=>exact⟨own,hr⟩
 | @slot t h i o _ hl ho ih=>
  obtain⟨own1,h1⟩:=ih;obtain⟨own2,h2,h3,h4⟩:=Ks h1 o ho;refine⟨own2,h2.size,h2.defers,h2.hp,h2.fr,fun u=>?_⟩;rw[oD];split
  ·rename_i e;subst e;have:=h1.slots i;rw[hl]at this;rw[bF this];exact .os (hd:= { v:=.slice none 0 0}) h4 rfl
  ·exact h2.slots u
 | @slotE t h i k _ hl ih=>
  obtain⟨own1,h1⟩:=ih;have hs:=h1.slots i;rw[hl]at hs;generalize hv:a.tmps.getD i undef=v at hs;cases hs with
  | @e0 ad=>
   obtain⟨own2,h2,h3,h4⟩:=Oc h1 k ad;refine⟨own2,h2.size,h2.defers,h2.hp,h2.fr,fun u=>?_⟩;rw[oD];split
   ·rename_i e;subst e;rw[hv];exact .os (hd:= { v:=.slice ad 0 0}) h4 rfl
   ·exact h2.slots u
 | @cell t h i j l o _ hc hl ho ih=>
  obtain⟨own1,h1⟩:=ih;obtain⟨own2,h2,h3,h4⟩:=Ks h1 o ho;have hlt:i<h.length:=by
   rcases Nat.lt_or_ge i h.length with h'|h'
   ·exact h'
   ·rw[pe h']at hc;cases hc
  have hlen:(aW h i (.cells (l.set j (.os h.length)))).length=h.length:=by rw[bC,if_pos hlt]
  refine⟨own2,h2.size,h2.defers,⟨fun id hd e=>?_,h2.hp.foreign,h2.hp.apart,h2.hp.inj,h2.hp.lt,fun id hd=>?_⟩,h2.fr,h2.slots⟩
  ·have:=h2.hp.dom id hd e;simp only[List.length_append]at this |-;rw[hlen];exact this
  ·simp only at hd |-;have hob:=h2.hp.obs id;simp only at hob;by_cases hi:id<h.length
   ·rw[re,if_pos (by rw[hlen];exact hi)]at hd |-;rw[re,if_pos hi]at hob;rw[b4]at hd |-;by_cases hii:i=id
    ·subst hii;rw[if_pos rfl]at hd |-;rw[hc]at hob;obtain⟨hd',e1,b,cs,ty,m1,m2,m3,m4,m5⟩:=hob rfl;refine⟨hd',e1,b,cs,ty,m1,m2,m3,by simpa using m4,fun j' s hs=>?_⟩;rw[List.getElem?_set]at hs;by_cases hj:j=j'
     ·subst hj;rw[if_pos rfl]at hs;split at hs
      ·cases hs;have:=m5 j _ hl;rw[bF this];exact .os (hd:= { v:=.slice none 0 0}) h4 rfl
      ·cases hs
     ·rw[if_neg hj]at hs;exact m5 j' s hs
    ·rw[if_neg hii]at hd |-;exact hob hd
   ·rw[re,if_neg (by rw[hlen];exact hi),hlen]at hd |-;rw[re,if_neg hi]at hob;exact hob hd
end
section
variable {P:Program}{F:Nat->Prop}{w0:Bs}{ro:Option Nat}{nd:Nat}{ts:Tis}{G:Cons}{L:tP}{N:Nat}
theorem wJ {ts:Tis}{G:Cons}{ro:Option Nat}{N:Nat}(hm:P.follows .mixedOrders=true)(hts:ts.ok P)(hG:ConsOk P G){id:Nat}{c:Code}(hc:bQ N c=true){C:St->Option LCon}
  (h:∀ st lc,C st=some lc->lc.pre->∃ (σ:Type) (D:σ->St) (I:σ->Prop) (m:σ->Nat) (x0:σ) (stN:St) (js:List Nat),I x0/\NilS st stN/\st.h.length<=(D x0).h.length/\Sub js st.h.length stN (D x0)/\
   ∀ x,I x->∃ L Qx,ak P ro N L c/\(∀ e st',Qx e st'->sR D I m st.h.length x id (fun e st'=>∃ r js,lc.post r/\lc.ex r=e/\st.h.length<=(lc.out r).h.length/\Sub js st.h.length st' (lc.out r)) e st')/\exec ts G L c (D x) Qx):kc P ro N id (.loop c) C:=by
 intro nd F w0 st lc hC hpre own a w hr;obtain⟨σ,D,I,m,x0,stN,js,h1,hN,h2,h3,h4⟩:=h st lc hC hpre;obtain⟨ownN,hrN⟩:=hN.rel hr;refine wpIn_mono (D7 hm hts hG hc D I m st.h.length hr.base_lt _ h4 x0 h1 _ a w (hrN.sub h3 hr.base_lt h2)) ?_;intro e a' w' hq;have key:∀ ex F1 own' st',StRel F1 w0 N own' st' a' w'->(∃ r js,lc.post r/\lc.ex r=ex/\st.h.length<=(lc.out r).h.length/\Sub js st.h.length st' (lc.out r))->∃ own2 st2,StRel F1 w0 N own2 st2 a' w'/\∃ r,lc.post r/\ex=lc.ex r/\st2=lc.out r:=by
  rintro ex F1 own' st' hst ⟨r,js,q1,q2,q3,q4⟩;exact⟨_,_,hst.sub q4 hr.base_lt q3,r,q1,q2.symm,rfl⟩
 cases e with
 |normal=>obtain⟨F1,own',st',h0,k1,k2⟩:=hq;obtain⟨own2,st2,q1,q2⟩:=key _ F1 own' st' k1 k2;exact⟨F1,own2,st2,h0,q1,q2⟩
 |exit j=>obtain⟨F1,own',st',h0,k1,k2⟩:=hq;obtain⟨own2,st2,q1,q2⟩:=key _ F1 own' st' k1 k2;exact⟨F1,own2,st2,h0,q1,q2⟩
 |ret=>obtain⟨F1,own',st',h0,k1,k2⟩:=hq;obtain⟨own2,st2,q1,q2⟩:=key _ F1 own' st' k1 k2;exact⟨F1,own2,st2,h0,q1,q2⟩
 |panic ch=>
  obtain⟨x,F1,own',st',h0,k1,k2,k3⟩:=hq;obtain⟨own2,st2,q1,q2⟩:=key _ F1 own' st' k1 k2;exact⟨x,F1,own2,st2,h0,q1,q2,k3⟩
 |_=>exact hq.elim
end
section
variable {P:Program}{ρ σ:Type}
def jq (st2:St)(n0:Nat)(st:St):Prop:= ∃ js,n0<=st2.h.length/\Sub js n0 st st2
theorem Fe {st2 st:St}{n0:Nat}(js:List Nat)(h1:n0<=st2.h.length)(h2:Sub js n0 st st2):jq st2 n0 st:=⟨js,h1,h2⟩
def uM (D:Nat->σ->St)(n0 k:Nat)(st:St):ρ⊕σ->Prop
 | .inl _=>False
 | .inr s'=>jq (D (k+1) s') n0 st
def od (exE:ρ->Ex)(outE:ρ->St)(n0:Nat)(e:Ex)(st:St):ρ⊕σ->Prop
 | .inl x=>exE x=e/\jq (outE x) n0 st
 | .inr _=>False
def cE (step:Nat->σ->ρ⊕σ)(n:Nat)(exE:ρ->Ex)(outE:ρ->St)(outN:σ->St)(D:Nat->σ->St)(n0 id k:Nat)(s:σ):Ex->St->Prop
 | .normal,st=>k<n/\uM D n0 k st (step k s)
 | .exit j,st=>bif Nat.beq j id then(n<=k->jq (outN s) n0 st)/\(k<n->od exE outE n0 .normal st (step k s))else k<n/\od exE outE n0 (.exit j) st (step k s)
 | .ret,st=>k<n/\od exE outE n0 .ret st (step k s)
 | .pan x,st=>k<n/\od exE outE n0 (.pan x) st (step k s)
variable {step:Nat->σ->ρ⊕σ}{n n0 id k j:Nat}{exE:ρ->Ex}{outE:ρ->St}{outN:σ->St}{D:Nat->σ->St}{s s':σ}{st:St}{x:Value}{e:Ex}{y:ρ}
@[go_sem] theorem W7:uM (ρ:=ρ) D n0 k st (.inr s')=jq (D (k+1) s') n0 st:=(rfl)
@[go_sem] theorem YY:od (σ:=σ) exE outE n0 e st (.inl y)=(exE y=e/\jq (outE y) n0 st):=(rfl)
@[go_sem] theorem W8:cE step n exE outE outN D n0 id k s .normal st=(k<n/\uM D n0 k st (step k s)):=(rfl)
@[go_sem] theorem abc:cE step n exE outE outN D n0 id k s (.exit j) st=bif Nat.beq j id then(n<=k->jq (outN s) n0 st)/\(k<n->od exE outE n0 .normal st (step k s))else k<n/\od exE outE n0 (.exit j) st (step k s):=(rfl)
@[go_sem] theorem aci:cE step n exE outE outN D n0 id k s .ret st=(k<n/\od exE outE n0 .ret st (step k s)):=(rfl)
@[go_sem] theorem acj:cE step n exE outE outN D n0 id k s (.pan x) st=(k<n/\od exE outE n0 (.pan x) st (step k s)):=(rfl)
@[congr] theorem SK {r r':ρ⊕σ}(h:r=r'):uM D n0 k st r=uM D n0 k st r':=by rw[h]
@[congr] theorem YZ {st st':St}{e e':Ex}(h:st=st')(he:e=e'):cE step n exE outE outN D n0 id k s e st=cE step n exE outE outN D n0 id k s e' st':=by rw[h,he]
theorem LY {ts:Tis}{G:Cons}{ro:Option Nat}{N:Nat}(hm:P.follows .mixedOrders=true)(hts:ts.ok P)(hG:ConsOk P G){id:Nat}{c:Code}(hc:bQ N c=true){C:St->Option LCon}
  (h:∀ st lc,C st=some lc->lc.pre->∃ (ρ σ:Type) (pre:Prop) (step:Nat->σ->ρ⊕σ) (p:Nat->σ->Prop) (n:Nat) (s0:σ) (exE:ρ->Ex) (outE:ρ->St) (outN:σ->St) (D:Nat->σ->St) (stN:St) (js:List Nat),
   lc=LC pre (aq step n 0 s0) exE outE outN/\okI step p n 0 s0/\NilS st stN/\st.h.length<=(D 0 s0).h.length/\Sub js st.h.length stN (D 0 s0)/\
   ∀ k s,k<=n->(k<n->p k s)->∃ L,ak P ro N L c/\exec ts G L c (D k s) (cE step n exE outE outN D st.h.length id k s)):kc P ro N id (.loop c) C:=by
 refine wJ hm hts hG hc fun st lc hC hp=>?_;obtain⟨ρ,σ,pre,step,p,n,s0,exE,outE,outN,D,stN,js,rfl,h1,hN,h2,h3,h4⟩:=h st lc hC hp;refine⟨Nat×σ,fun x=>D x.1 x.2,fun x=>x.1<=n/\okI step p (n - x.1) x.1 x.2/\aq step (n - x.1) x.1 x.2=aq step n 0 s0,fun x=>n - x.1,(0,s0),stN,js,⟨Nat.zero_le _,by simpa using h1,by simp⟩,hN,h2,h3,?_⟩;rintro⟨k,s⟩ ⟨hk,hJ,hrun⟩;simp only at hk hJ hrun;obtain⟨L,hl,hex⟩:=h4 k s hk (fun hlt=>by
  rw[show n - k=(n - k - 1)+1 by omega]at hJ;exact hJ.1)
 refine⟨L,_,hl,?_,hex⟩;have hfin:∀ e st',k<n->od exE outE st.h.length e st' (step k s)->∃ r js,(LC pre (aq step n 0 s0) exE outE outN).post r/\(LC pre (aq step n 0 s0) exE outE outN).ex r=e/\st.h.length<=((LC pre (aq step n 0 s0) exE outE outN).out r).h.length/\Sub js st.h.length st' ((LC pre (aq step n 0 s0) exE outE outN).out r):=by
  intro e st' hlt q;cases hs:step k s with
  |inr s'=>rw[hs]at q;exact q.elim
  |inl x=>
   rw[hs]at q;obtain⟨q2,js,q3,q4⟩:=q;rw[show n - k=(n - k - 1)+1 by omega]at hrun;simp only[aq,hs]at hrun;exact⟨.inl x,js,hrun,q2,q3,q4⟩
 intro e st' hq;cases e with
 |normal=>
  obtain⟨q1,q2⟩:=hq;cases hs:step k s with
  |inl x=>rw[hs]at q2;exact q2.elim
  |inr s'=>
   rw[hs]at q2;obtain⟨js,q3,q4⟩:=q2;rw[show n - k=(n - (k+1))+1 by omega]at hrun hJ;simp only[aq,hs]at hrun;exact⟨(k+1,s'),js,⟨q1,hJ.2 s' hs,hrun⟩,by simp only;omega,q3,q4⟩
 |exit j=>
  have hq':(bif Nat.beq j id then(n<=k->jq (outN s) st.h.length st')/\(k<n->od exE outE st.h.length .normal st' (step k s))else k<n/\od exE outE st.h.length (.exit j) st' (step k s)):=hq;show bif Nat.beq j id then _ else _;cases hb:Nat.beq j id with
  |true=>
   rw[hb]at hq';simp only[cond_true]at hq' |-;by_cases hlt:k<n
   ·exact hfin _ _ hlt (hq'.2 hlt)
   ·obtain⟨js,q3,q4⟩:=hq'.1 (by omega);have hkn:k=n:=by omega
    subst hkn;simp only[Nat.sub_self,aq]at hrun;exact⟨.inr s,js,hrun,rfl,q3,q4⟩
  |false=>rw[hb]at hq';exact hfin _ _ hq'.1 hq'.2
 |ret=>exact hfin _ _ hq.1 hq.2
 |pan x=>exact hfin _ _ hq.1 hq.2
end
def je (p:Prop)(S:SV)(H:List Ob):HCon:= { α:=Unit,pre:=p,post:=fun _=>True,res:=fun _=>.ret S H}
def IX (n0:Nat)(S:SV)(H:List Ob)(h:List Ob):Option SV->Prop
 |some s=>jq ⟨[(0,S)],H⟩ n0 ⟨[(0,s)],h⟩
 |none=>False
def Od (n0:Nat)(rs:List ResultVar)(ts:Tis)(S:SV)(H:List Ob):Ex->St->Prop
 | .exit _,_=>False
 | .normal,st=>IX n0 S H st.h (lz (j8 ts st rs))
 | .ret,st=>IX n0 S H st.h (lz (j8 ts st rs))
 | .pan _,_=>False
section
variable {P:Program}{ts:Tis}{G:Cons}{n0:Nat}{S s:SV}{H h:List Ob}{rs:List ResultVar}{st:St}{x:Value}{j:Nat}
@[go_sem] theorem W9:IX n0 S H h (some s)=jq ⟨[(0,S)],H⟩ n0 ⟨[(0,s)],h⟩:=(rfl)
@[go_sem] theorem Rg:Od n0 rs ts S H .normal st=IX n0 S H st.h (lz (j8 ts st rs)):=(rfl)
@[go_sem] theorem W_:Od n0 rs ts S H .ret st=IX n0 S H st.h (lz (j8 ts st rs)):=(rfl)
@[go_sem high] theorem UF {p:Prop}{ids:List Nat}{d:Option Nat}{K:St->Prop}{Z:Value->St->Prop}:yL ids d st K Z (some (je p S H))=(p/\H9 ids d st K Z (.ret S H)):=by
 show(p/\∀ r:Unit,True->H9 ids d st K Z (.ret S H))=_;simp
def hCR (t:Tag)(k:List t.T->Option HCon):List Ob->Option HCon
 | [.cells [.os 1],.row k' l] =>if h:k'=t then k (h▸l)else none
 |_=>none
def pXR {α:Type 1}(t:Tag)(k:List t.T->List SV->Option α):List SV->Option α
 | .ep [.rs k' l] 0::r=>D_ t k r k' l
 |_=>none
@[go_sem] theorem ack {α:Type 1}{t:Tag}{k:List t.T->List SV->Option α}{l:List t.T}{r:List SV}:pXR t k (.ep [.rs t l] 0::r)=k l r:=by simp[pXR,D_]
theorem Rh {α:Type 1}{t:Tag}{k:List t.T->List SV->Option α}{l:List SV}{c:α}(h:pXR t k l=some c):∃ x r,l=.ep [.rs t x] 0::r/\k x r=some c:=by
 unfold pXR at h;split at h
 ·rename_i k' l' r;unfold D_ at h;split at h
  ·rename_i e;subst e;exact⟨_,_,rfl,h⟩
  ·cases h
 ·cases h
theorem oe (hm:P.follows .mixedOrders=true) (hts:ts.ok P) (hG:ConsOk P G) {f:FuncId} {fn:Func} {c:Code} (hf:P.funcs[f]? =some fn) (hb:fn.body=some c) (hname:(fn.name== "runtime.NumGoroutine")=false)
  (hc:bQ fn.ntmps c=true) {C:List SV->List Ob->Option HCon}
  (h:∀ l o con,C l o=some con->∃ p S H,con=je p S H/\(p->l.length<=fn.ntmps/\∃ L,ak P none fn.ntmps L c/\exec ts G L c ⟨mC 0 l,o⟩ (Od o.length fn.results.toList ts S H))):FnOkO P f C:=by
 refine Cj hm hts hG hf hb hname hc fun l o con hC hp=>?_;obtain⟨p,S,H,rfl,h2⟩:=h l o con hC;obtain⟨h3,L,h4,h5⟩:=h2 hp;refine⟨h3,L,_,h4,fun e st hq=>?_,h5⟩;cases e with
 |normal=>
  change IX _ _ _ _ _ at hq;show yM _ _ _ _;cases hs:lz (j8 ts st fn.results.toList)with
  |none=>rw[hs]at hq;exact hq.elim
  |some s=>rw[hs]at hq;obtain⟨js,q1,q2⟩:=hq;exact⟨(),S,H,js,trivial,rfl,q1,q2⟩
 |ret=>
  change IX _ _ _ _ _ at hq;show yM _ _ _ _;cases hs:lz (j8 ts st fn.results.toList)with
  |none=>rw[hs]at hq;exact hq.elim
  |some s=>rw[hs]at hq;obtain⟨js,q1,q2⟩:=hq;exact⟨(),S,H,js,trivial,rfl,q1,q2⟩
 |exit j=>exact hq.elim
 |pan x=>exact hq.elim
end
end Go.Sx
end
section
namespace Go.Sx
attribute [go_sem] true_imp_iff false_imp_iff Bool.false_eq_true Int.toNat_natCast Int.toNat_zero true_and and_true and_self implies_true forall_const
theorem cl {p:Prop}(h:p:=by(first|done|(repeat' (first|with_reducible refine And.intro ?_ ?_|((with_reducible show _≠_);first|assumption|omega|(simp_all [dQ,eX];done) |grind) |with_reducible intro _)) <;>(first|done|with_reducible exact Empty.elim ‹Empty› |with_reducible assumption|rfl|omega|assumption|(simp only[*,cond_true,cond_false,Bool.not_true,Bool.not_false,go_sem,Nat.reduceBEq,Nat.reduceLeDiff,Nat.reduceAdd,Nat.reduceSub,Nat.reduceMul,Int.reduceLE,Int.reduceLT,Int.reduceToNat,Int.reduceNeg,reduceCtorEq];done) |(simp only[*,cond_true,cond_false,Bool.not_true,Bool.not_false,go_sem,Nat.reduceBEq,Nat.reduceLeDiff,Nat.reduceAdd,Nat.reduceSub,Nat.reduceMul,Int.reduceLE,Int.reduceLT,Int.reduceToNat,Int.reduceNeg,reduceCtorEq];(repeat' (first|with_reducible refine And.intro ?_ ?_|((with_reducible show _≠_);first|assumption|omega|(simp_all [dQ,eX];done) |grind) |with_reducible intro _)) <;>(first|done|assumption|rfl|omega|(simp_all [dQ,eX];done))) |(simp_all [okI,dQ,eX];done) |grind))):p:=h
theorem cl2 {p:Prop}(h:p:=by(first|done|(repeat' (first|with_reducible refine And.intro ?_ ?_|((with_reducible show _≠_);first|assumption|omega|(simp_all [dQ,eX];done) |grind) |with_reducible intro _)) <;>(first|done|with_reducible exact Empty.elim ‹Empty› |with_reducible assumption|rfl|omega|assumption|(simp only[*,go_sem,Nat.reduceBEq,Nat.reduceLeDiff,Nat.reduceAdd,Nat.reduceSub,Nat.reduceMul,Int.reduceLE,Int.reduceLT,Int.reduceToNat,Int.reduceNeg,reduceCtorEq];done) |(simp_all [dQ,eX];done)))):p:=h
inductive JL:List Nat->Prop
 |mk (l:List Nat):JL l
theorem jl (l:List Nat):JL l:=.mk l
theorem fk {st2 st:St}{n0:Nat}{js:List Nat}(_:JL js)(h1:n0<=st2.h.length:=by(first|(show _<=_;decide) |(simp only[*,go_sem,Nat.reduceBEq,Nat.reduceLeDiff,Nat.reduceAdd,Nat.reduceSub,Nat.reduceMul,Int.reduceLE,Int.reduceLT,Int.reduceToNat,Int.reduceNeg,reduceCtorEq];done) |(simp only[*,go_sem,Nat.reduceBEq,Nat.reduceLeDiff,Nat.reduceAdd,Nat.reduceSub,Nat.reduceMul,Int.reduceLE,Int.reduceLT,Int.reduceToNat,Int.reduceNeg,reduceCtorEq];(repeat' (first|with_reducible refine And.intro ?_ ?_|((with_reducible show _≠_);first|assumption|omega|(simp_all [dQ,eX];done) |grind) |with_reducible intro _)) <;>(first|rfl|decide|assumption|omega|(simp_all [dQ,eX];done)))))(h2:Sub js n0 st st2:=by(first|(show _<=_;decide) |(simp only[*,go_sem,Nat.reduceBEq,Nat.reduceLeDiff,Nat.reduceAdd,Nat.reduceSub,Nat.reduceMul,Int.reduceLE,Int.reduceLT,Int.reduceToNat,Int.reduceNeg,reduceCtorEq];done) |(simp only[*,go_sem,Nat.reduceBEq,Nat.reduceLeDiff,Nat.reduceAdd,Nat.reduceSub,Nat.reduceMul,Int.reduceLE,Int.reduceLT,Int.reduceToNat,Int.reduceNeg,reduceCtorEq];(repeat' (first|with_reducible refine And.intro ?_ ?_|((with_reducible show _≠_);first|assumption|omega|(simp_all [dQ,eX];done) |grind) |with_reducible intro _)) <;>(first|rfl|decide|assumption|omega|(simp_all [dQ,eX];done))))):jq st2 n0 st:=Fe js h1 h2
theorem fk2 {st2 st:St}{n0:Nat}{js:List Nat}(_:JL js)(h1:n0<=st2.h.length:=by(first|(show _<=_;decide) |(simp only[go_sem,Nat.reduceBEq,Nat.reduceLeDiff,Nat.reduceAdd,Nat.reduceSub,Nat.reduceMul,Int.reduceLE,Int.reduceLT,Int.reduceToNat,Int.reduceNeg,reduceCtorEq];(repeat' (first|with_reducible refine And.intro ?_ ?_|((with_reducible show _≠_);first|assumption|omega|(simp_all [dQ,eX];done) |grind) |with_reducible intro _)) <;>(first|rfl|decide|assumption|omega|(simp_all [dQ,eX];done)))))(h2:Sub js n0 st st2:=by(first|(show _<=_;decide) |(simp only[go_sem,Nat.reduceBEq,Nat.reduceLeDiff,Nat.reduceAdd,Nat.reduceSub,Nat.reduceMul,Int.reduceLE,Int.reduceLT,Int.reduceToNat,Int.reduceNeg,reduceCtorEq];(repeat' (first|with_reducible refine And.intro ?_ ?_|((with_reducible show _≠_);first|assumption|omega|(simp_all [dQ,eX];done) |grind) |with_reducible intro _)) <;>(first|rfl|decide|assumption|omega|(simp_all [dQ,eX];done))))):jq st2 n0 st:=Fe js h1 h2
theorem cg0 {α:Type _}{p:α->Prop}:∀ x∈([]:List α),p x:=fun _ h=>by cases h
theorem cgc {α:Type _}{p:α->Prop}{a:α}{l:List α}(h:p a)(t:∀ x∈l,p x):∀ x∈a::l,p x:=fun x hx=>by
 rcases List.mem_cons.1 hx with rfl|hx
 ·exact h
 ·exact t x hx
attribute [go_sem] if_true
end Go.Sx
end
section
namespace Go.Sx
open Go.RowKit
open IntKind (i64)
section
variable {P:Program}
end
def okL {ρ σ τ:Type}(step:τ->σ->ρ⊕σ)(p:τ->σ->Prop):List τ->σ->Prop
 | [],_=>True
 |x::l,s=>p x s/\∀ s',step x s=.inr s'->okL step p l s'
theorem Kt {ρ σ τ:Type}{step:τ->σ->ρ⊕σ}{p:τ->σ->Prop}:∀ (l:List τ) (s:σ),(∀ x∈l,∀ s,p x s)->okL step p l s
 | [],_,_=>trivial
 |x::l,s,h=>⟨h x (by simp) s,fun s' _=>Kt l s' fun y hy=>h y (by simp[hy])⟩
section
variable {ρ σ τ:Type}
def rgN (T:List (Nat×SV))(H:σ->List Ob)(n0:Nat)(st:St):ρ⊕σ->Prop
 | .inl _=>False
 | .inr s'=>jq ⟨T,H s'⟩ n0 ⟨T,st.h⟩
def rgX (exE:ρ->Ex)(T:List (Nat×SV))(Hy:ρ->List Ob)(n0:Nat)(e:Ex)(st:St):ρ⊕σ->Prop
 | .inl y=>exE y=e/\jq ⟨T,Hy y⟩ n0 ⟨T,st.h⟩
 | .inr _=>False
def rgQ (step:τ->σ->ρ⊕σ)(exE:ρ->Ex)(T:List (Nat×SV))(H:σ->List Ob)(Hy:ρ->List Ob)(n0 id:Nat)(x:τ)(s:σ):Ex->St->Prop
 | .normal,st=>rgN T H n0 st (step x s)
 | .exit j,st=>rgX exE T Hy n0 (bif Nat.beq j id then .normal else .exit j) st (step x s)
 | .ret,st=>rgX exE T Hy n0 .ret st (step x s)
 | .pan _,_=>False
variable {step:τ->σ->ρ⊕σ}{exE:ρ->Ex}{T:List (Nat×SV)}{H:σ->List Ob}{Hy:ρ->List Ob}{n0 id j:Nat}{x:τ}{s s':σ}{y:ρ}{st:St}{e:Ex}
@[go_sem] theorem abd:rgN (ρ:=ρ) T H n0 st (.inr s')=jq ⟨T,H s'⟩ n0 ⟨T,st.h⟩:=(rfl)
@[go_sem] theorem abe:rgX (σ:=σ) exE T Hy n0 e st (.inl y)=(exE y=e/\jq ⟨T,Hy y⟩ n0 ⟨T,st.h⟩):=(rfl)
@[go_sem] theorem UG:rgQ step exE T H Hy n0 id x s .normal st=rgN T H n0 st (step x s):=(rfl)
@[go_sem] theorem abf:rgQ step exE T H Hy n0 id x s .ret st=rgX exE T Hy n0 .ret st (step x s):=(rfl)
@[go_sem] theorem Y0:rgQ step exE T H Hy n0 id x s (.exit j) st=rgX exE T Hy n0 (bif Nat.beq j id then .normal else .exit j) st (step x s):=(rfl)
@[congr] theorem Xa {r r':ρ⊕σ}(h:r=r'):rgN T H n0 st r=rgN T H n0 st r':=by rw[h]
@[congr] theorem Xb {r r':ρ⊕σ}{e e':Ex}(h:r=r')(he:e=e'):rgX exE T Hy n0 e st r=rgX exE T Hy n0 e' st r':=by rw[h,he]
end
section
variable {P:Program}{ts:Tis}{G:Cons}{N:Nat}
theorem zY (hm:P.follows .mixedOrders=true)(hts:ts.ok P)(hG:ConsOk P G){id:Nat}{g:Operand}{ps:Array Tmp}{assign body:Code}{C:St->Option LCon}
  (hpn:ps.toList.Nodup) (hpN:∀ p∈ps.toList,p<N) (hca:bQ N assign=true) (hcb:bQ N body=true)
  (h:∀ st lc,C st=some lc->lc.pre->∃ (f:FuncId) (caps:List SV) (τ ρ σ:Type) (l:List τ) (mk:τ->List SV) (step:τ->σ->ρ⊕σ) (p:τ->σ->Prop) (pre:Prop) (s0:σ) (exE:ρ->Ex) (outE:ρ->St) (outN:σ->St) (T:List (Nat×SV)) (H:σ->List Ob) (Hy:ρ->List Ob) (js:List Nat),
   raw st.t g=.fn f [] caps/\lc=LC pre (kf step l s0) exE outE outN/\okL step p l s0/\st.h.length<=(H s0).length/\Sub js st.h.length ⟨st.t,wI (oG st caps) st.h⟩ ⟨T,H s0⟩/\
   GY P f (fun y=>y::caps.map (ren (IV (oG st caps)) 3)) (G0 (oG st caps) st.h) (l.map mk)/\
   (∀ x s,p x s->(mk x).length=ps.size/\∃ L,(∀ l,ak P (some l) N L assign)/\(∀ l,ak P (some l) N L body)/\exec ts G L assign ⟨psT ps.toList (mk x)++T,H s⟩ (fun e st1=>e=.normal/\exec ts G L body st1 (rgQ step exE T H Hy st.h.length id x s)))/\
   (∀ s,jq (outN s) st.h.length ⟨T,H s⟩)/\∀ y,jq (outE y) st.h.length ⟨T,Hy y⟩):kc P none N id (.rangeFunc g ps assign body) C:=by
 refine G1 hm hts hG hpn hpN hca hcb fun st lc hC hp=>?_;obtain⟨f,caps,τ,ρ,σ,l,mk,step,p,pre,s0,exE,outE,outN,T,H,Hy,js,h1,rfl,h2,h3,h4,h5,h6,h7,h8⟩:=h st lc hC hp;refine⟨f,caps,l.map mk,σ⊕ρ,T,fun z=>match z with| .inl s=>H s| .inr y=>Hy y,fun k z=>match z with| .inl s=>kf step (l.drop k) s=kf step l s0/\okL step p (l.drop k) s| .inr _=>False,
  fun e z=>match z with| .inl _=>False| .inr y=>kf step l s0=.inl y/\(match e with| .ret=>exE y=.ret| .exit j=>exE y=(bif Nat.beq j id then .normal else .exit j) |_=>False),.inl s0,js,h1,⟨rfl,h2⟩,h3,h4,h5,?_,?_,?_,?_⟩
 ·rintro k z args hk hI;cases z with
  |inr y=>exact hI.elim
  |inl s=>
   obtain⟨hrun,hok⟩:=hI;rw[List.getElem?_map,Option.map_eq_some_iff]at hk;obtain⟨x,hx,rfl⟩:=hk;have hlt:=(List.getElem?_eq_some_iff.1 hx).1;have hd:l.drop k=x::l.drop (k+1):=by
    rw[List.drop_eq_getElem_cons hlt];congr 1;exact(List.getElem?_eq_some_iff.1 hx).2
   rw[hd]at hrun hok;obtain⟨hl,L,hla,hlb,hex⟩:=h6 x s hok.1;refine⟨hl,L,_,hla,hlb,?_,hex⟩;intro e st' hq;have fin:∀ e',rgX exE T Hy st.h.length e' st' (step x s)->∃ y js,exE y=e'/\kf step l s0=.inl y/\st.h.length<=(Hy y).length/\Sub js st.h.length ⟨T,st'.h⟩ ⟨T,Hy y⟩:=by
    intro e' q;cases hs:step x s with
    |inr s'=>rw[hs]at q;exact q.elim
    |inl y=>
     rw[hs]at q;obtain⟨q1,js,q2,q3⟩:=q;simp only[kf,hs]at hrun;exact⟨y,js,q1,hrun.symm,q2,q3⟩
   cases e with
   |normal=>
    change rgN T H st.h.length st' (step x s)at hq;cases hs:step x s with
    |inl y=>rw[hs]at hq;exact hq.elim
    |inr s'=>
     rw[hs]at hq;obtain⟨js,q1,q2⟩:=hq;simp only[kf,hs]at hrun;exact⟨.inl s',js,⟨hrun,hok.2 s' hs⟩,q1,q2⟩
   |exit j=>
    obtain⟨y,js,q1,q2,q3,q4⟩:=fin _ hq;exact⟨.inr y,js,⟨q2,q1⟩,q3,q4⟩
   |ret=>
    obtain⟨y,js,q1,q2,q3,q4⟩:=fin _ hq;exact⟨.inr y,js,⟨q2,q1⟩,q3,q4⟩
   |pan x=>exact hq.elim
 ·intro z hI;cases z with
  |inr y=>exact hI.elim
  |inl s=>
   obtain⟨js,q1,q2⟩:=h7 s;have:=hI.1;rw[List.length_map,List.drop_length]at this;exact⟨.inr s,js,this,rfl,q1,q2⟩
 ·intro z hS;cases z with
  |inl s=>exact hS.elim
  |inr y=>
   obtain⟨js,q1,q2⟩:=h8 y;exact⟨.inl y,js,hS.1.symm,hS.2,q1,q2⟩
 ·intro j z hS;cases z with
  |inl s=>exact hS.elim
  |inr y=>
   obtain⟨js,q1,q2⟩:=h8 y;refine⟨.inl y,js,hS.1.symm,?_,q1,q2⟩;have:=hS.2;show exE y=_;rw[this];by_cases hj:j=id
   ·rw[if_pos hj];have hb:Nat.beq j id=true:=by rw[hj];exact Nat.beq_refl id
    rw[hb];rfl
   ·rw[if_neg hj];cases hb:Nat.beq j id with
    |true=>exact absurd (Nat.eq_of_beq_eq_true hb) hj
    |false=>rfl
end
section
variable {P:Program}{ρ σ τ:Type}
def Cs:Ob->Option Nat
 | .mi _ _ _ c=>c
 |_=>none
def nxC (step:τ->σ->ρ⊕σ)(l:List τ)(d:τ)(D:List Nat->Option Nat->σ->St)(n0:Nat)(left:List Nat)(s:σ)(st:St):Option Nat->Prop
 |some j=>j∈left/\uM (fun _ s'=>D (left.erase j) (some j) s') n0 0 st (step (l.getD j d) s)
 |none=>False
def exC (step:τ->σ->ρ⊕σ)(l:List τ)(d:τ)(exE:ρ->Ex)(outE:ρ->St)(n0:Nat)(left:List Nat)(s:σ)(e:Ex)(st:St):Option Nat->Prop
 |some j=>j∈left/\od exE outE n0 e st (step (l.getD j d) s)
 |none=>False
def cM (step:τ->σ->ρ⊕σ)(l:List τ)(d:τ)(exE:ρ->Ex)(outE:ρ->St)(outN:σ->St)(D:List Nat->Option Nat->σ->St)(n0 id it:Nat)(left:List Nat)(s:σ):Ex->St->Prop
 | .normal,st=>nxC step l d D n0 left s st (Cs (al st.h it))
 | .exit j,st=>bif Nat.beq j id then(left=[]->jq (outN s) n0 st)/\(left≠[]->exC step l d exE outE n0 left s .normal st (Cs (al st.h it)))else exC step l d exE outE n0 left s (.exit j) st (Cs (al st.h it))
 | .ret,st=>exC step l d exE outE n0 left s .ret st (Cs (al st.h it))
 | .pan x,st=>exC step l d exE outE n0 left s (.pan x) st (Cs (al st.h it))
variable {step:τ->σ->ρ⊕σ}{l:List τ}{d:τ}{n0 id it j:Nat}{exE:ρ->Ex}{outE:ρ->St}{outN:σ->St}{D:List Nat->Option Nat->σ->St}{left:List Nat}{s s':σ}{st:St}{x:Value}{e:Ex}{y:ρ}{t:List (Nat×SV)}{h:List Ob}
@[go_sem] theorem abg {m:Option Nat}{n:Nat}{left:List Nat}{c:Option Nat}:Cs (.mi m n left c)=c:=(rfl)
@[go_sem] theorem Y1:nxC step l d D n0 left s st (some j)=(j∈left/\uM (fun _ s'=>D (left.erase j) (some j) s') n0 0 st (step (l.getD j d) s)):=(rfl)
@[go_sem] theorem Y2:exC step l d exE outE n0 left s e st (some j)=(j∈left/\od exE outE n0 e st (step (l.getD j d) s)):=(rfl)
@[go_sem] theorem Xc:cM step l d exE outE outN D n0 id it left s .normal ⟨t,h⟩=nxC step l d D n0 left s ⟨t,h⟩ (Cs (al h it)):=(rfl)
@[go_sem] theorem abh:cM step l d exE outE outN D n0 id it left s (.exit j) ⟨t,h⟩=bif Nat.beq j id then(left=[]->jq (outN s) n0 ⟨t,h⟩)/\(left≠[]->exC step l d exE outE n0 left s .normal ⟨t,h⟩ (Cs (al h it)))else exC step l d exE outE n0 left s (.exit j) ⟨t,h⟩ (Cs (al h it)):=(rfl)
@[go_sem] theorem acl:cM step l d exE outE outN D n0 id it left s .ret ⟨t,h⟩=exC step l d exE outE n0 left s .ret ⟨t,h⟩ (Cs (al h it)):=(rfl)
@[go_sem] theorem acm:cM step l d exE outE outN D n0 id it left s (.pan x) ⟨t,h⟩=exC step l d exE outE n0 left s (.pan x) ⟨t,h⟩ (Cs (al h it)):=(rfl)
attribute [go_sem] MT
@[go_sem] theorem Y3 {t:List (Nat×SV)}{h:List Ob}{d:Nat}{s:SV}:St.put ⟨t,h⟩ (some d) s=⟨(d,s)::t,h⟩:=(rfl)
@[go_sem] theorem Y4 {t:List (Nat×SV)}{h:List Ob}{s:SV}:St.put ⟨t,h⟩ none s=⟨t,h⟩:=(rfl)
end
inductive NLoc where
 |slot (i:Nat) (o:Ob)
 |cell (i j:Nat) (o:Ob)
def Oe (j n:Nat):Ob->Ob
 | .cells l=>.cells (l.set j (.os n))
 |o=>o
def Ri (j:Nat):Ob->Prop
 | .cells l=>nth l j=some (.v (.slice none 0 0))
 |_=>False
def Ct:Ob->Prop
 | .row _ l=>l=[]
 | .grid _ l=>l=[]
 |_=>False
def LZ:SV->Ob->Prop
 | .v (.slice none 0 0),_=>True
 | .e0,.row _ _=>True
 |_,_=>False
def mkN:List NLoc->St->St
 | [],st=>st
 | .slot i o::r,⟨t,h⟩ =>mkN r ⟨(i,.os h.length)::t,h++[o]⟩
 | .cell i j o::r,⟨t,h⟩ =>mkN r ⟨t,aW h i (Oe j h.length (al h i))++[o]⟩
def okN:List NLoc->St->Prop
 | [],_=>True
 | .slot i o::r,⟨t,h⟩ =>LZ (lk i t) o/\Ct o/\okN r ⟨(i,.os h.length)::t,h++[o]⟩
 | .cell i j o::r,⟨t,h⟩ =>Ri j (al h i)/\Ct o/\okN r ⟨t,aW h i (Oe j h.length (al h i))++[o]⟩
section
variable {i j m n:Nat}{o:Ob}{r:List NLoc}{t t2:List (Nat×SV)}{h h2:List Ob}{l:List SV}{ns:List NLoc}{js:List Nat}{st:St}
@[go_sem] theorem abi:mkN [] st=st:=(rfl)
@[go_sem] theorem Y5:mkN (.slot i o::r) ⟨t,h⟩=mkN r ⟨(i,.os h.length)::t,h++[o]⟩:=(rfl)
@[go_sem] theorem Y6:mkN (.cell i j o::r) ⟨t,h⟩=mkN r ⟨t,aW h i (Oe j h.length (al h i))++[o]⟩:=(rfl)
@[go_sem] theorem abj:okN [] st=True:=(rfl)
@[go_sem] theorem Y7:okN (.slot i o::r) ⟨t,h⟩=(LZ (lk i t) o/\Ct o/\okN r ⟨(i,.os h.length)::t,h++[o]⟩):=(rfl)
@[go_sem] theorem Y8:okN (.cell i j o::r) ⟨t,h⟩=(Ri j (al h i)/\Ct o/\okN r ⟨t,aW h i (Oe j h.length (al h i))++[o]⟩):=(rfl)
@[go_sem] theorem Y9:LZ (.v (.slice none 0 0)) o=True:=by cases o <;>rfl
@[go_sem] theorem abk {k:Tag}{m:List k.T}:LZ .e0 (.row k m)=True:=(rfl)
@[go_sem] theorem UH:Oe j n (.cells l)=.cells (l.set j (.os n)):=(rfl)
@[go_sem] theorem UJ:Ri j (.cells l)=(nth l j=some (.v (.slice none 0 0))):=(rfl)
theorem Ku (h:Ct o):(∃ k,o=.row k [])\/∃ k,o=.grid k []:=by
 cases o <;>simp only[Ct]at h
 ·subst h;exact .inl ⟨_,rfl⟩
 ·subst h;exact .inr ⟨_,rfl⟩
theorem Of {s:SV}{o:Ob}(h:LZ s o):s=.v (.slice none 0 0)\/(s=.e0/\∃ k l,o=.row k l):=by
 unfold LZ at h;split at h
 ·exact .inl rfl
 ·exact .inr ⟨rfl,_,_,rfl⟩
 ·exact h.elim
theorem wK:∀ (ns:List NLoc) (st0 st:St),NilS st0 st->okN ns st->NilS st0 (mkN ns st)
 | [],_,_,hn,_=>hn
 | .slot i o::r,st0,⟨t,h⟩,hn,hk=>by
  rcases Of hk.1 with e| ⟨e,k,l,ho⟩
  ·exact wK r st0 _ (.slot o hn e (Ku hk.2.1)) hk.2.2
  ·have h2:=hk.2.1;have h3:=hk.2.2;rw[ho]at h2 h3;simp only[Ct]at h2;subst h2;subst ho;exact wK r st0 _ (.slotE k hn e) h3
 | .cell i j o::r,st0,⟨t,h⟩,hn,hk=>by
  refine wK r st0 _ ?_ hk.2.2;have h1:=hk.1;cases ho:al h i with
  |cells l=>
   rw[ho]at h1;simp only[Ri,fU]at h1;exact .cell o hn ho h1 (Ku hk.2.1)
  |_=>rw[ho]at h1;exact h1.elim
def vF (m:Nat)(ns:List NLoc)(js:List Nat)(st d:St):Prop:=st.h.length=m/\okN ns st/\m<=d.h.length/\Sub js m (mkN ns st) d
@[go_sem] theorem Xd:vF m ns js ⟨t,h⟩ ⟨t2,h2⟩=(h.length=m/\okN ns ⟨t,h⟩/\m<=h2.length/\Sub js m (mkN ns ⟨t,h⟩) ⟨t2,h2⟩):=(rfl)
end
theorem ag {P:Program}{ro:Option Nat}{N:Nat}(c:Code):ak P ro N L0 c:=by
 induction c with
 |seq a b ha hb=>exact⟨ha,hb⟩
 |cond _ a b ha hb=>exact⟨ha,hb⟩
 |block id c hc=>
  cases c with
  |loop c=>exact fun _ _ _ _ _ h=>by cases h
  |rangeFunc f ps a b=>exact fun _ _ _ _ _ h=>by cases h
  |_=>exact hc
 |_=>trivial
section
variable {ρ σ τ:Type}
def pT:Nat->σ->Prop:=fun _ _=>True
@[go_sem] theorem acn {step:Nat->σ->ρ⊕σ}{n i:Nat}{s:σ}:okI step pT n i s=True:=eq_true (j4 _ _ _ fun _ _ _ _=>trivial)
def LCR (m:Nat)(ns:List NLoc)(js:List Nat)(D:Nat->σ->St)(step:Nat->σ->ρ⊕σ)(p:Nat->σ->Prop)(n:Nat)(s0:σ)(B:Prop)(exE:ρ->Ex)(outE:ρ->St)(st:St):LCon:=
 LC (vF m ns js st (D 0 s0)/\B/\okI step p n 0 s0) (aq step n 0 s0) exE outE (D n)
def LCV (m:Nat)(ns:List NLoc)(js:List Nat)(D:Nat->σ->St)(step:Nat->σ->ρ⊕σ)(p:Nat->σ->Prop)(n:Nat)(s0:σ)(exE:ρ->Ex)(outE:ρ->St)(st:St):LCon:=
 LC (vF m ns js st (D 0 s0)/\okI step p n 0 s0/\∀ s,aq step n 0 s0≠ .inr s) (aq step n 0 s0) exE outE (D n)
variable {m:Nat}{ns:List NLoc}{js:List Nat}{step:Nat->σ->ρ⊕σ}{p:Nat->σ->Prop}{n:Nat}{s0:σ}{B:Prop}{exE:ρ->Ex}{outE:ρ->St}{outN:σ->St}{st:St}{Q:Ex->St->Prop}
@[go_sem] theorem Xe {D:Nat->σ->St}:sQ Q (some (LCR m ns js D step p n s0 B exE outE st))=((vF m ns js st (D 0 s0)/\B/\okI step p n 0 s0)/\(∀ x,aq step n 0 s0=.inl x->Q (exE x) (outE x))/\∀ s,aq step n 0 s0=.inr s->Q .normal (D n s)):=GW
@[go_sem] theorem Xf {D:Nat->σ->St}:sQ Q (some (LCV m ns js D step p n s0 exE outE st))=((vF m ns js st (D 0 s0)/\okI step p n 0 s0/\∀ s,aq step n 0 s0≠ .inr s)/\∀ x,aq step n 0 s0=.inl x->Q (exE x) (outE x)):=by
 refine GW.trans ?_;apply propext;constructor
 ·rintro⟨h1,h2,_⟩;exact⟨h1,h2⟩
 ·rintro⟨h1,h2⟩;exact⟨h1,h2,fun s hs=>absurd hs (h1.2.2 s)⟩
def cR (step:Nat->σ->ρ⊕σ)(exE:ρ->Ex)(outE:ρ->St)(D:Nat->σ->St)(m id k:Nat)(s:σ):Ex->St->Prop
 | .normal,st=>uM D m k st (step k s)
 | .exit j,st=>od exE outE m (bif Nat.beq j id then .normal else .exit j) st (step k s)
 | .ret,st=>od exE outE m .ret st (step k s)
 | .pan x,st=>od exE outE m (.pan x) st (step k s)
def cZ (d:St)(m id:Nat):Ex->St->Prop
 | .exit j,st=>bif Nat.beq j id then jq d m st else False
 |_,_=>False
variable {D:Nat->σ->St}{id k j:Nat}{s:σ}{x:Value}{d:St}{e e':Ex}
@[go_sem] theorem Xg:cR step exE outE D m id k s .normal st=uM D m k st (step k s):=(rfl)
@[go_sem] theorem abl:cR step exE outE D m id k s (.exit j) st=od exE outE m (bif Nat.beq j id then .normal else .exit j) st (step k s):=(rfl)
@[go_sem] theorem aco:cR step exE outE D m id k s .ret st=od exE outE m .ret st (step k s):=(rfl)
@[go_sem] theorem acp:cR step exE outE D m id k s (.pan x) st=od exE outE m (.pan x) st (step k s):=(rfl)
@[go_sem] theorem abm:cZ d m id (.exit j) st=bif Nat.beq j id then jq d m st else False:=(rfl)
@[congr] theorem Y_ {st':St}(h:st=st')(he:e=e'):cR step exE outE D m id k s e st=cR step exE outE D m id k s e' st':=by rw[h,he]
@[congr] theorem Za {st':St}(h:st=st')(he:e=e'):cZ d m id e st=cZ d m id e' st':=by rw[h,he]
@[congr] theorem SL {r r':ρ⊕σ}(h:r=r')(he:e=e'):od exE outE m e st r=od exE outE m e' st r':=by rw[h,he]
end
section
variable {P:Program}{ρ σ τ:Type}{ts:Tis}{G:Cons}{ro:Option Nat}{N:Nat}{id:Nat}{c:Code}{C:St->Option LCon}{m:Nat}{ns:List NLoc}{js:List Nat}{step:Nat->σ->ρ⊕σ}{p:Nat->σ->Prop}{n:Nat}{s0:σ}{exE:ρ->Ex}{outE:ρ->St}{D:Nat->σ->St}
theorem IY {n0:Nat}(hn0:n0=m){s:σ}{k:Nat}(hlt:k<n){I:Nat×σ->Prop}{μ:Nat×σ->Nat}{outN:σ->St}{pre:Prop}{run:ρ⊕σ}
  (hI:∀ s',step k s=.inr s'->I (k+1,s')/\μ (k+1,s') <μ (k,s)) (hx:∀ x,step k s=.inl x->run=.inl x):
  ∀ e st',cR step exE outE D m id k s e st'->sR (fun x:Nat×σ=>D x.1 x.2) I μ n0 (k,s) id (fun e st'=>∃ r js,(LC pre run exE outE outN).post r/\(LC pre run exE outE outN).ex r=e/\n0<=((LC pre run exE outE outN).out r).h.length/\Sub js n0 st' ((LC pre run exE outE outN).out r)) e st':=by
 subst hn0;have hfin:∀ e st',od exE outE n0 e st' (step k s)->∃ r js,(LC pre run exE outE outN).post r/\(LC pre run exE outE outN).ex r=e/\n0<=((LC pre run exE outE outN).out r).h.length/\Sub js n0 st' ((LC pre run exE outE outN).out r):=by
  intro e st' q;cases hs:step k s with
  |inr s'=>rw[hs]at q;exact q.elim
  |inl x=>
   rw[hs]at q;obtain⟨q2,js,q3,q4⟩:=q;exact⟨.inl x,js,(hx x hs).symm,q2,q3,q4⟩
 intro e st' hq;cases e with
 |normal=>
  change uM D n0 k st' (step k s)at hq;cases hs:step k s with
  |inl x=>rw[hs]at hq;exact hq.elim
  |inr s'=>
   rw[hs]at hq;obtain⟨js,q3,q4⟩:=hq;obtain⟨i1,i2⟩:=hI s' hs;exact⟨(k+1,s'),js,i1,i2,q3,q4⟩
 |exit j=>
  change od exE outE n0 (bif Nat.beq j id then .normal else .exit j) st' (step k s)at hq;show bif Nat.beq j id then _ else _;cases hb:Nat.beq j id with
  |true=>rw[hb]at hq;exact hfin _ _ hq
  |false=>rw[hb]at hq;exact hfin _ _ hq
 |ret=>exact hfin _ _ hq
 |pan x=>exact hfin _ _ hq
theorem zZ {B:Prop}(hm:P.follows .mixedOrders=true)(hts:ts.ok P)(hG:ConsOk P G)(hc:bQ N c=true)(hC:∀ st,C st=some (LCR m ns js D step p n s0 B exE outE st))
  (h:B->∀ k s,k<n->p k s->∃ L Q,ak P ro N L c/\(∀ e st',Q e st'->cR step exE outE D m id k s e st')/\exec ts G L c (D k s) Q)
  (h2:B->∀ s,∃ Q,(∀ e st',Q e st'->cZ (D n s) m id e st')/\exec ts G L0 c (D n s) Q):kc P ro N id (.loop c) C:=by
 refine wJ hm hts hG hc fun st lc hC' hp=>?_;rw[hC st]at hC';cases hC';obtain⟨⟨hlen,hok,hle,hsub⟩,hB,h1⟩:=hp;refine⟨Nat×σ,fun x=>D x.1 x.2,fun x=>x.1<=n/\okI step p (n - x.1) x.1 x.2/\aq step (n - x.1) x.1 x.2=aq step n 0 s0,fun x=>n - x.1,(0,s0),mkN ns st,js,⟨Nat.zero_le _,by simpa using h1,by simp⟩,wK ns st st (.refl _) hok,by rw[hlen];exact hle,by rw[hlen];exact hsub,?_⟩;rintro⟨k,s⟩ ⟨hk,hJ,hrun⟩;simp only at hk hJ hrun;rcases Nat.lt_or_ge k n with hlt|hge
 ·rw[show n - k=(n - k - 1)+1 by omega]at hrun hJ;obtain⟨L,Q,hl,hQ,hex⟩:=h hB k s hlt hJ.1;have hI:∀ s',step k s=.inr s'->okI step p (n - (k+1)) (k+1) s'/\aq step (n - (k+1)) (k+1) s'=aq step n 0 s0:=fun s' hs=>by
   have:=hJ.2 s' hs;rw[show n - k - 1=n - (k+1) by omega]at this hrun;simp only[aq,hs]at hrun;exact⟨this,hrun⟩
  have hx:∀ x,step k s=.inl x->aq step n 0 s0=.inl x:=fun x hs=>by
   simp only[aq,hs]at hrun;exact hrun.symm
  exact⟨L,Q,hl,fun e st' q=>IY hlen hlt (fun s' hs=>⟨⟨hlt,hI s' hs⟩,by simp only;omega⟩) hx e st' (hQ e st' q),hex⟩
 ·have hkn:k=n:=by omega
  subst hkn;obtain⟨Q,hQ,hex⟩:=h2 hB s;refine⟨L0,Q,ag c,fun e st' q=>?_,hex⟩;have hq:=hQ e st' q;simp only[Nat.sub_self,aq]at hrun;cases e with
  |exit j=>
   change bif Nat.beq j id then jq (D k s) m st' else False at hq;show bif Nat.beq j id then _ else _;cases hb:Nat.beq j id with
   |true=>
    rw[hb]at hq;obtain⟨js,q3,q4⟩:=hq;exact⟨.inr s,js,hrun,rfl,by rw[hlen];exact q3,by rw[hlen];exact q4⟩
   |false=>rw[hb]at hq;exact hq.elim
  |_=>exact hq.elim
theorem bh {B:Prop}(hm:P.follows .mixedOrders=true)(hts:ts.ok P)(hG:ConsOk P G)(hc:bQ N c=true)(hC:∀ st,C st=some (LCR m ns js D step p n s0 B exE outE st))(M:Int)(hn:n=M.toNat)(hB:B->M<9223372036854775808)
  (h:B->∀ k s,k<n->p k s->i64.wrap ((k:Int)+1)=((k+1:Nat):Int)->decide ((k:Int) <M)=true->∃ L,ak P ro N L c/\exec ts G L c (D k s) (cR step exE outE D m id k s))
  (h2:B->∀ s,decide ((n:Int) <M)=false->exec ts G L0 c (D n s) (cZ (D n s) m id)):kc P ro N id (.loop c) C:=by
 refine zZ hm hts hG hc hC (fun b k s hlt hp=>?_) fun b s=>⟨_,fun _ _ q=>q,h2 b s ?_⟩
 ·obtain⟨L,h1,h3⟩:=h b k s hlt hp (J7 (hn▸hlt) (hB b)) (decide_eq_true (by omega));exact⟨L,_,h1,fun _ _ q=>q,h3⟩
 ·rw[decide_eq_false_iff_not];omega
theorem cB (E:Prop)(hm:P.follows .mixedOrders=true)(hts:ts.ok P)(hG:ConsOk P G)(hc:bQ N c=true)(hC:∀ st,C st=some (LCR m ns js D step p n s0 True exE outE st))(M:Int)(hn:n=M.toNat)(hE:E->M<9223372036854775808)
  (h:E->∀ k s,k<n->p k s->i64.wrap ((k:Int)+1)=((k+1:Nat):Int)->decide ((k:Int) <M)=true->∃ L,ak P ro N L c/\exec ts G L c (D k s) (cR step exE outE D m id k s))
  (h2:E->∀ s,decide ((n:Int) <M)=false->exec ts G L0 c (D n s) (cZ (D n s) m id)) (h3:¬E->∀ k s,exec ts G L0 c (D k s) fun _ _=>False):kc P ro N id (.loop c) C:=by
 by_cases hb:E
 ·refine zZ hm hts hG hc hC (fun b k s hlt hp=>?_) fun b s=>⟨_,fun _ _ q=>q,h2 hb s ?_⟩
  ·obtain⟨L,h1,h4⟩:=h hb k s hlt hp (J7 (hn▸hlt) (hE hb)) (decide_eq_true (by omega));exact⟨L,_,h1,fun _ _ q=>q,h4⟩
  ·rw[decide_eq_false_iff_not];omega
 ·exact zZ hm hts hG hc hC (fun _ k s _ _=>⟨L0,_,ag c,fun _ _ q=>q.elim,h3 hb k s⟩) fun _ s=>⟨_,fun _ _ q=>q.elim,h3 hb n s⟩
theorem pj (hm:P.follows .mixedOrders=true)(hts:ts.ok P)(hG:ConsOk P G)(hc:bQ N c=true)(hC:∀ st,C st=some (LCV m ns js D step p n s0 exE outE st))
  (h:∀ k s,p k s->∃ L,ak P ro N L c/\exec ts G L c (D k s) (cR step exE outE D m id k s)):kc P ro N id (.loop c) C:=by
 refine wJ hm hts hG hc fun st lc hC' hp=>?_;rw[hC st]at hC';cases hC';obtain⟨⟨hlen,hok,hle,hsub⟩,h1,hno⟩:=hp;refine⟨Nat×σ,fun x=>D x.1 x.2,fun x=>x.1<=n/\okI step p (n - x.1) x.1 x.2/\aq step (n - x.1) x.1 x.2=aq step n 0 s0,fun x=>n - x.1,(0,s0),mkN ns st,js,⟨Nat.zero_le _,by simpa using h1,by simp⟩,wK ns st st (.refl _) hok,by rw[hlen];exact hle,by rw[hlen];exact hsub,?_⟩;rintro⟨k,s⟩ ⟨hk,hJ,hrun⟩;simp only at hk hJ hrun;have hlt:k<n:=by
  rcases Nat.lt_or_ge k n with h|h
  ·exact h
  ·have hkn:k=n:=by omega
   subst hkn;simp only[Nat.sub_self,aq]at hrun;exact absurd hrun.symm (hno s)
 rw[show n - k=(n - k - 1)+1 by omega]at hrun hJ;obtain⟨L,hl,hex⟩:=h k s hJ.1;have hI:∀ s',step k s=.inr s'->okI step p (n - (k+1)) (k+1) s'/\aq step (n - (k+1)) (k+1) s'=aq step n 0 s0:=fun s' hs=>by
  have:=hJ.2 s' hs;rw[show n - k - 1=n - (k+1) by omega]at this hrun;simp only[aq,hs]at hrun;exact⟨this,hrun⟩
 have hx:∀ x,step k s=.inl x->aq step n 0 s0=.inl x:=fun x hs=>by
  simp only[aq,hs]at hrun;exact hrun.symm
 exact⟨L,_,hl,fun e st' q=>IY hlen hlt (fun s' hs=>⟨⟨hlt,hI s' hs⟩,by simp only;omega⟩) hx e st' q,hex⟩
theorem dV {α:Type}{l:List α}(h:l.length<=aA):(l.length:Int) <9223372036854775808:=by unfold aA at h;omega
end
section
universe u
variable {α:Type u}{G:List SV->α->Prop}{r:List SV}
theorem br {k:Int->List SV->Option α}(h:∀ n l c,k n l=some c->G (.v (.int .i64 n)::l) c):∀ l c,pI k l=some c->G l c:=fun l c hc=>by
 obtain⟨n,r,rfl,h1⟩:=Uo hc;exact h n r c h1
theorem IZ {k:Int->List SV->Option α}(h:∀ n l c,k n l=some c->G (.v (.int .u64 n)::l) c):∀ l c,pU k l=some c->G l c:=fun l c hc=>by
 obtain⟨n,r,rfl,h1⟩:=zW hc;exact h n r c h1
theorem Og {k:Bool->List SV->Option α}(h:∀ n l c,k n l=some c->G (.v (.bool n)::l) c):∀ l c,pB k l=some c->G l c:=fun l c hc=>by
 obtain⟨n,r,rfl,h1⟩:=Uq hc;exact h n r c h1
theorem a_ {t:Tag}{k:List t.T->List SV->Option α}(h:∀ n l c,k n l=some c->G (.rs t n::l) c):∀ l c,pR t k l=some c->G l c:=fun l c hc=>by
 obtain⟨n,r,rfl,h1⟩:=Ur hc;exact h n r c h1
theorem aF {t:Tag}{k:t.T->List SV->Option α}(h:∀ n l c,k n l=some c->G (.agg (cellsOf t n)::l) c):∀ l c,pD t k l=some c->G l c:=fun l c hc=>by
 obtain⟨n,r,rfl,h1⟩:=ND hc;exact h n r c h1
theorem aR {t:Tag}{k:t.T->List SV->Option α}(h:∀ n l c,k n l=some c->G (.ep (cellsOf t n) 0::l) c):∀ l c,pX t k l=some c->G l c:=fun l c hc=>by
 obtain⟨n,r,rfl,h1⟩:=NC hc;exact h n r c h1
theorem ah {c0:α}(h:G [] c0):∀ l c,pE c0 l=some c->G l c:=fun l c hc=>by
 obtain⟨rfl,rfl⟩:=Ck hc;exact h
end
section
universe u
variable {α:Type u}{G:List SV->α->Prop}
def apO:Option (List SV->Option α)->List SV->Option α
 |some q,r=>q r
 |none,_=>none
@[go_sem] theorem Zb {q:List SV->Option α}{r:List SV}:apO (some q) r=q r:=(rfl)
@[go_sem] theorem Zc {r:List SV}:apO (α:=α) none r=none:=(rfl)
def pFn (f:Nat)(k:List SV->Option (List SV->Option α)):List SV->Option α
 | .fn g [] caps::r=>bif Nat.beq g f then apO (k caps) r else none
 |_=>none
def pXF (f:Nat)(k:List SV->Option (List SV->Option α)):List SV->Option α
 | .ep [.fn g [] caps] 0::r=>bif Nat.beq g f then apO (k caps) r else none
 |_=>none
@[go_sem] theorem acq {f g:Nat}{k:List SV->Option (List SV->Option α)}{caps r:List SV}:pFn f k (.fn g [] caps::r)=bif Nat.beq g f then apO (k caps) r else none:=(rfl)
@[go_sem] theorem acr {f g:Nat}{k:List SV->Option (List SV->Option α)}{caps r:List SV}:pXF f k (.ep [.fn g [] caps] 0::r)=bif Nat.beq g f then apO (k caps) r else none:=(rfl)
theorem y8 {o:Option (List SV->Option α)}{r:List SV}{c:α}(h:apO o r=some c):∃ q,o=some q/\q r=some c:=by
 cases o with
 |none=>cases h
 |some q=>exact⟨q,rfl,h⟩
theorem bH {f:Nat}{k:List SV->Option (List SV->Option α)}(h:∀ caps q,k caps=some q->∀ l c,q l=some c->G (.fn f [] caps::l) c):∀ l c,pFn f k l=some c->G l c:=fun l c hc=>by
 unfold pFn at hc;split at hc
 ·rename_i g caps r;cases hb:Nat.beq g f with
  |false=>rw[hb]at hc;cases hc
  |true=>
   rw[hb]at hc;obtain⟨q,h1,h2⟩:=y8 hc;have:=Nat.eq_of_beq_eq_true hb;subst this;exact h caps q h1 r c h2
 ·cases hc
theorem kU {f:Nat}{k:List SV->Option (List SV->Option α)}(h:∀ caps q,k caps=some q->∀ l c,q l=some c->G (.ep [.fn f [] caps] 0::l) c):∀ l c,pXF f k l=some c->G l c:=fun l c hc=>by
 unfold pXF at hc;split at hc
 ·rename_i g caps r;cases hb:Nat.beq g f with
  |false=>rw[hb]at hc;cases hc
  |true=>
   rw[hb]at hc;obtain⟨q,h1,h2⟩:=y8 hc;have:=Nat.eq_of_beq_eq_true hb;subst this;exact h caps q h1 r c h2
 ·cases hc
def pFB (f:Nat)(k:List SV->Option (List SV->Option α)):List SV->Option α
 | .fn g caps []::r=>bif Nat.beq g f then apO (k caps) r else none
 |_=>none
def I0 (f:Nat)(k:List SV->Option (List SV->Option α)):List SV->Option α
 | .ep [.fn g caps []] 0::r=>bif Nat.beq g f then apO (k caps) r else none
 |_=>none
@[go_sem] theorem acs {f g:Nat}{k:List SV->Option (List SV->Option α)}{caps r:List SV}:pFB f k (.fn g caps []::r)=bif Nat.beq g f then apO (k caps) r else none:=(rfl)
@[go_sem] theorem abn {f g:Nat}{k:List SV->Option (List SV->Option α)}{caps r:List SV}:I0 f k (.ep [.fn g caps []] 0::r)=bif Nat.beq g f then apO (k caps) r else none:=(rfl)
@[go_sem] theorem acu {f g:Nat}{k:List SV->Option (List SV->Option α)}{b c r:List SV}{x:SV}:pFB f k (.fn g b (x::c)::r)=none:=(rfl)
@[go_sem] theorem abo {f g:Nat}{k:List SV->Option (List SV->Option α)}{b c r:List SV}{x:SV}:I0 f k (.ep [.fn g b (x::c)] 0::r)=none:=(rfl)
@[go_sem] theorem acv {f g:Nat}{k:List SV->Option (List SV->Option α)}{b c r:List SV}{x:SV}:pFn f k (.fn g (x::b) c::r)=none:=(rfl)
@[go_sem] theorem acw {f g:Nat}{k:List SV->Option (List SV->Option α)}{b c r:List SV}{x:SV}:pXF f k (.ep [.fn g (x::b) c] 0::r)=none:=(rfl)
theorem Rj {f:Nat}{k:List SV->Option (List SV->Option α)}(h:∀ caps q,k caps=some q->∀ l c,q l=some c->G (.fn f caps []::l) c):∀ l c,pFB f k l=some c->G l c:=fun l c hc=>by
 unfold pFB at hc;split at hc
 ·rename_i g caps r;cases hb:Nat.beq g f with
  |false=>rw[hb]at hc;cases hc
  |true=>
   rw[hb]at hc;obtain⟨q,h1,h2⟩:=y8 hc;have:=Nat.eq_of_beq_eq_true hb;subst this;exact h caps q h1 r c h2
 ·cases hc
theorem Cu {f:Nat}{k:List SV->Option (List SV->Option α)}(h:∀ caps q,k caps=some q->∀ l c,q l=some c->G (.ep [.fn f caps []] 0::l) c):∀ l c,I0 f k l=some c->G l c:=fun l c hc=>by
 unfold I0 at hc;split at hc
 ·rename_i g caps r;cases hb:Nat.beq g f with
  |false=>rw[hb]at hc;cases hc
  |true=>
   rw[hb]at hc;obtain⟨q,h1,h2⟩:=y8 hc;have:=Nat.eq_of_beq_eq_true hb;subst this;exact h caps q h1 r c h2
 ·cases hc
end
def pXX {α:Type 1}(t:Tag)(k:t.T->List SV->Option α):List SV->Option α
 | .ep [s] 0::r=>pX t k (s::r)
 |_=>none
@[go_sem] theorem Zd {α:Type 1}{t:Tag}{k:t.T->List SV->Option α}{s:SV}{r:List SV}:pXX t k (.ep [s] 0::r)=pX t k (s::r):=(rfl)
theorem Rk {α:Type 1}{t:Tag}{k:t.T->List SV->Option α}{l:List SV}{c:α}(h:pXX t k l=some c):∃ x r,l=.ep [.ep (cellsOf t x) 0] 0::r/\k x r=some c:=by
 unfold pXX at h;split at h
 ·obtain⟨x,r,e,h1⟩:=NC h;simp only[List.cons.injEq]at e;obtain⟨rfl,rfl⟩:=e;exact⟨x,_,rfl,h1⟩
 ·cases h
theorem bI {α:Type 1}{G:List SV->α->Prop}{t:Tag}{k:t.T->List SV->Option α}(h:∀ n l c,k n l=some c->G (.ep [.ep (cellsOf t n) 0] 0::l) c):∀ l c,pXX t k l=some c->G l c:=fun l c hc=>by
 obtain⟨n,r,rfl,h1⟩:=Rk hc;exact h n r c h1
theorem Bf {α:Type 1}{G:List SV->α->Prop}{t:Tag}{k:List t.T->List SV->Option α}(h:∀ n l c,k n l=some c->G (.ep [.rs t n] 0::l) c):∀ l c,pXR t k l=some c->G l c:=fun l c hc=>by
 obtain⟨n,r,rfl,h1⟩:=Rh hc;exact h n r c h1
def Rl (k:Tag)(K:List k.T->Option HCon):List Ob->Option HCon
 | [.row k' l] =>if h:k'=k then K (h▸l)else none
 |_=>none
theorem Oh {k:Tag}{K:List k.T->Option HCon}{h:List Ob}{c:HCon}(hh:Rl k K h=some c):∃ l,h=[.row k l]/\K l=some c:=by
 unfold Rl at hh;split at hh
 ·split at hh
  ·rename_i e;subst e;exact⟨_,rfl,hh⟩
  ·cases hh
 ·cases hh
end Go.Sx
end
section
namespace Go.Sx
open Go.Proofs
open IntKind (i64 u64)
theorem czl {p:Prop}(h:p:=by first|(simp only[*,cond_true,cond_false,Bool.not_true,Bool.not_false,go_sem,Nat.reduceBEq,Nat.reduceLeDiff,Nat.reduceLT,decide_true,Nat.reduceAdd,Nat.reduceSub,Nat.reduceMul,Int.reduceLE,Int.reduceLT,Int.reduceToNat,Int.reduceNeg,reduceCtorEq];done) |fail):p:=h
theorem jr {l0:List Nat}(a0:JL l0){p:Prop}(h:JL l0->p:=by intro ja;(first|done|(repeat' (first|with_reducible refine And.intro ?_ ?_|((with_reducible show _≠_);first|assumption|omega|(simp_all [dQ,eX];done) |grind) |with_reducible intro _)) <;>(first|done|with_reducible exact Empty.elim ‹Empty› |with_reducible assumption|rfl|omega|assumption|decide|exact fk ja|exact czl|(simp only[*,cond_true,cond_false,Bool.not_true,Bool.not_false,go_sem,Nat.reduceBEq,Nat.reduceLeDiff,Nat.reduceLT,decide_true,Nat.reduceAdd,Nat.reduceSub,Nat.reduceMul,Int.reduceLE,Int.reduceLT,Int.reduceToNat,Int.reduceNeg,reduceCtorEq];(repeat' (first|with_reducible refine And.intro ?_ ?_|((with_reducible show _≠_);first|assumption|omega|(simp_all [dQ,eX];done) |grind) |with_reducible intro _)) <;>(first|done|assumption|rfl|omega|decide|exact fk ja|(simp_all [dQ,eX];done))) |(simp_all [okI,dQ,eX];done) |(simp_all [dQ,eX];(first|done|exact fk2 ja)) |exact fk2 ja))):p:=h a0
theorem aL {l0:List Nat}(a0:JL l0){p:Prop}(h:JL l0->p:=by intro ja;simp only[go_sem,Nat.reduceBEq,Nat.reduceLeDiff,Nat.reduceLT,decide_true,Nat.reduceAdd,Nat.reduceSub,Nat.reduceMul,Int.reduceLE,Int.reduceLT,Int.reduceToNat,Int.reduceNeg,reduceCtorEq,hc,hw];all_goals exact jr ja):p:=h a0
theorem aK {l0:List Nat}(a0:JL l0){p:Prop}(h:JL l0->p:=by intro ja;simp only[go_sem,Nat.reduceBEq,Nat.reduceLeDiff,Nat.reduceLT,decide_true,Nat.reduceAdd,Nat.reduceSub,Nat.reduceMul,Int.reduceLE,Int.reduceLT,Int.reduceToNat,Int.reduceNeg,reduceCtorEq,hc];all_goals exact jr ja):p:=h a0
def lL (x:Int):Bool:=false
@[go_sem] def vR:List SV->Option Con:=(pI fun x=>(pE (.det True (.v (.bool (lL x))))))
theorem zq1 {p:Prop}(h:p:=by simp only[go_sem,Nat.reduceBEq,Nat.reduceLeDiff,Nat.reduceLT,decide_true,Nat.reduceAdd,Nat.reduceSub,Nat.reduceMul,Int.reduceLE,Int.reduceLT,Int.reduceToNat,Int.reduceNeg,reduceCtorEq];all_goals exact cl):p:=h
theorem z6:FnOk Tryz.prog 145 vR:=by
 have hG:ConsOk Tryz.prog (mkG [] []):=am cg0 cg0;refine av [.o] mixed ai hG (fn:=Tryz.f145) (c:=aa Tryz.f145) kr kr kr kr (br fun x=>(ah (fun hp=>?_)));dsimp only[an]at hp;refine⟨nbl rfl,L0,ag _,?_⟩
 ·unfold aa Tryz.f145;try unfold lL
  exact zq1
def cP (x:Int)(y:Int):Int:=(bif(lL x)then(bif(lL y)then 0 else(-1))else(bif(lL y)then 1 else(bif(decide (x<y))then(-1)else(bif(decide (x > y))then 1 else 0))))
@[go_sem] def mc:List SV->Option Con:=(pI fun x=>(pI fun y=>(pE (.det True (.v (.int .i64 (cP x y)))))))
theorem oI:FnOk Tryz.prog 97 mc:=by
 have hG:ConsOk Tryz.prog (mkG [(145,vR)] []):=am (cgc z6 cg0) cg0;refine av [.o] mixed ai hG (fn:=Tryz.f97) (c:=aa Tryz.f97) kr kr kr kr (br fun x=>(br fun y=>(ah (fun hp=>?_))));dsimp only[an]at hp;refine⟨nbl rfl,L0,ag _,?_⟩
 ·unfold aa Tryz.f97;try unfold cP
  exact zq1
def jh (n:Int):Int:=(bif(decide (n<0))then(u64.wrap (0 - (u64.wrap n)))else(u64.wrap n))
@[go_sem] def tX:List SV->Option Con:=(pI fun n=>(pE (.det True (.v (.int .u64 (jh n))))))
theorem yr:FnOk Tryz.prog 263 tX:=by
 have hG:ConsOk Tryz.prog (mkG [] []):=am cg0 cg0;refine av [.o] mixed ai hG (fn:=Tryz.f263) (c:=aa Tryz.f263) kr kr kr kr (br fun n=>(ah (fun hp=>?_)));dsimp only[an]at hp;refine⟨nbl rfl,L0,ag _,?_⟩
 ·unfold aa Tryz.f263;try unfold jh
  exact zq1
def tY (a:Ratio):Int:=(bif(((((decide (a.d<1)) ||(decide (a.d > 1073741824))) ||(decide (a.n< (-1073741824)))) ||(decide (a.n > 1073741824))) ||(((Rf (Int.toNat (jh a.n)) (Int.toNat (u64.wrap a.d)):Nat):Int) !=1))then 120 else 0)
def xS (a:Ratio):Prop:=(((((decide (a.d<1)) ||(decide (a.d > 1073741824))) ||(decide (a.n< (-1073741824)))) ||(decide (a.n > 1073741824)))=false->(0<=(jh a.n)/\0<=(u64.wrap a.d)))
theorem Cv (n:Int):0<=u64.wrap n:=by
 simp[IntKind.wrap,IntKind.bits,IntKind.signed];omega
theorem z7 (n:Int):0<=jh n:=by
 unfold jh;cases decide (n<0) <;>exact Cv _
theorem Cw (a:Ratio):xS a:=fun _=>⟨z7 _,Cv _⟩
@[go_sem] def xT:List SV->Option Con:=(pD .ratio fun a=>(pE (.det True (.v (.int .i64 (tY a))))))
theorem zq4 {p:Prop}(h:p:=by simp only[go_sem,Nat.reduceBEq,Nat.reduceLeDiff,Nat.reduceLT,decide_true,Nat.reduceAdd,Nat.reduceSub,Nat.reduceMul,Int.reduceLE,Int.reduceLT,Int.reduceToNat,Int.reduceNeg,reduceCtorEq,C83];all_goals exact cl):p:=h
theorem Cy:FnOk Tryz.prog 253 xT:=by
 have hG:ConsOk Tryz.prog (mkG [(262,C83),(263,tX)] []):=am (cgc UE (cgc yr cg0)) cg0;refine av [.o] mixed ai hG (fn:=Tryz.f253) (c:=aa Tryz.f253) kr kr kr kr (aF fun a=>(ah (fun hp=>?_)));dsimp only[an]at hp;have hp:=Cw a;unfold xS at hp;refine⟨nbl rfl,L0,ag _,?_⟩
 ·unfold aa Tryz.f253;try unfold tY
  exact zq4
def uN (a:Ratio)(b:Ratio):Int×Int:=(bif(((tY a) !=0) ||((tY b) !=0))then(0,120)else((cP (i64.wrap (a.n*b.d)) (i64.wrap (b.n*a.d))),0))
@[go_sem] def Ax:List SV->Option Con:=(pD .ratio fun a=>(pD .ratio fun b=>(pE (.det True (.tup [.v (.int .i64 ((uN a b).1)),.v (.int .i64 ((uN a b).2))])))))
theorem Fg:FnOk Tryz.prog 229 Ax:=by
 have hG:ConsOk Tryz.prog (mkG [(97,mc),(253,xT)] []):=am (cgc oI (cgc Cy cg0)) cg0;refine av [.o,.o] mixed ai hG (fn:=Tryz.f229) (c:=aa Tryz.f229) kr kr kr kr (aF fun a=>(aF fun b=>(ah (fun hp=>?_))));dsimp only[an]at hp;refine⟨nbl rfl,L0,ag _,?_⟩
 ·unfold aa Tryz.f229;try unfold uN
  exact zq1
def Do (ok:Bool)(e:Int):Unit:=(bif(!ok)then default else())
def dw (ok:Bool)(e:Int):Bool:=(bif(!ok)then false else true)
@[go_sem] def rS:List SV->Option Con:=(pB fun ok=>(pI fun e=>(pE (.may (dw ok e) (.tup []) (.iface 214 (.int .i64 e))))))
theorem uO:FnOk Tryz.prog 107 rS:=by
 have hG:ConsOk Tryz.prog (mkG [] []):=am cg0 cg0;refine av [] mixed ai hG (fn:=Tryz.f107) (c:=aa Tryz.f107) kr kr kr kr (Og fun ok=>(br fun e=>(ah (fun hp=>?_))));dsimp only[an]at hp;refine⟨nbl rfl,L0,ag _,?_⟩
 ·unfold aa Tryz.f107;try unfold Do
  try unfold dw
  exact zq1
@[go_sem] def iD (l_:List Int)(k_0:Nat)(s_0:Unit):Unit⊕Unit:=(bif(decide ((l_.getD (Int.toNat ((k_0:Int)+1)) 0) < (l_.getD (Int.toNat (i64.wrap (((k_0:Int)+1) - 1))) 0)))then .inl ()else .inr ())
def kV (l_:List Int)(k_0:Nat)(s_0:Unit):Prop:=(l_.length<=aA->((0<=((k_0:Int)+1)/\((k_0:Int)+1) < (l_.length:Int))/\(0<=(i64.wrap (((k_0:Int)+1) - 1))/\(i64.wrap (((k_0:Int)+1) - 1)) < (l_.length:Int))))
def cm (l_:List Int):Bool:=(match aq (iD l_) (l_.length - 1) 0 ()with| .inl x_0_0=>false| .inr s_0=>true)
def vS (l_:List Int):Prop:=okI (iD l_) (kV l_) (l_.length - 1) 0 ()
theorem z8 (l_:List Int):vS l_:=j4 _ _ _ fun j s h1 h2 hm=>by
 unfold aA at hm;rw[mb (by omega) (by omega)];omega
@[go_sem] def ox:List SV->Option Con:=(pR .int fun l_=>(pE (.det True (.v (.bool (cm l_))))))
theorem zq7 {p:Prop}(h:p:=by simp only[go_sem,Nat.reduceBEq,Nat.reduceLeDiff,Nat.reduceLT,decide_true,Nat.reduceAdd,Nat.reduceSub,Nat.reduceMul,Int.reduceLE,Int.reduceLT,Int.reduceToNat,Int.reduceNeg,reduceCtorEq,hb0]):p:=h
theorem zq8 {p:Prop}(h:p:=by simp only[go_sem,Nat.reduceBEq,Nat.reduceLeDiff,Nat.reduceLT,decide_true,Nat.reduceAdd,Nat.reduceSub,Nat.reduceMul,Int.reduceLE,Int.reduceLT,Int.reduceToNat,Int.reduceNeg,reduceCtorEq,iD,hc0,hw0];all_goals exact cl):p:=h
theorem zq9 {p:Prop}(h:p:=by simp only[go_sem,Nat.reduceBEq,Nat.reduceLeDiff,Nat.reduceLT,decide_true,Nat.reduceAdd,Nat.reduceSub,Nat.reduceMul,Int.reduceLE,Int.reduceLT,Int.reduceToNat,Int.reduceNeg,reduceCtorEq,hc0];all_goals exact cl2):p:=h
theorem qy:FnOk Tryz.prog 148 ox:=by
 have hG:ConsOk Tryz.prog (mkG [] []):=am cg0 cg0;refine av [.o] mixed ai hG (fn:=Tryz.f148) (c:=aa Tryz.f148) kr kr kr kr (a_ fun l_=>(ah (fun hp=>?_)));dsimp only[an]at hp;have hp:=z8 l_;unfold vS at hp;refine⟨nbl rfl,(fun id st=>bif Nat.beq id 0 then some (LC (ρ:=Unit) (σ:=Unit) (lk 0 st.t=.rs .int l_/\lk 3 st.t=.v (.int .i64 1)/\st.h=[]/\okI (iD l_) (kV l_) (l_.length - 1) 0 ()) (aq (iD l_) (l_.length - 1) 0 ()) (fun _=>.ret) (fun x_0_0=>⟨[(2,.v (.bool false))],[]⟩) (fun s_0=>⟨[],[]⟩))else none),?_,?_⟩
 ·unfold aa Tryz.f148;simp only[ak,true_and,and_true]
  ·refine LX mixed ai hG kr fun st lc hC hp=>?_;simp only[go_sem,Nat.reduceBEq,Option.some.injEq]at hC;subst hC;obtain⟨t,h⟩:=st;dsimp only[LC]at hp;obtain⟨e0_0,e0_1,rfl,hok0⟩:=hp;refine⟨_,_,_,(iD l_),(kV l_),(l_.length - 1),(),_,_,_,(fun k_0 s_0=>⟨[(0,.rs .int l_),(3,.v (.int .i64 ((k_0:Int)+1)))],[]⟩),[],rfl,hok0,Nat.le_refl _,?_,fun k_0 s_0 hk0 hp0=>?_⟩
   ·simp only[go_sem,Nat.reduceBEq,Nat.reduceLeDiff,Nat.reduceLT,decide_true,Nat.reduceAdd,Nat.reduceSub,Nat.reduceMul,Int.reduceLE,Int.reduceLT,Int.reduceToNat,Int.reduceNeg,reduceCtorEq,e0_0,e0_1];all_goals (first|done|decide|(repeat' (first|refine And.intro ?_ ?_|rfl|decide)))
   refine⟨L0,?_,?_⟩
   ·simp only[ak,and_self,true_and,and_true]
   ·by_cases hb0:l_.length<=aA
    rotate_left
    ·exact zq7
    ·by_cases hlt0:k_0< (l_.length - 1)
     ·have hw0:i64.wrap (((k_0:Nat):Int)+1+1)=((k_0+1:Nat):Int)+1:=by(have hbb:=hb0;have hll:=hlt0;try unfold aA at hbb);rw[mb (by omega) (by omega)];omega
      have hq0:=hp0 hlt0;unfold kV at hq0
      replace hq0:=hq0 hb0
      try simp only[hw0,Int.toNat_natCast]at hq0
      have hc0:decide (((k_0:Int)+1) < (l_.length:Int))=true:=by simp only[decide_eq_true_eq];omega
      exact zq8
     ·have hc0:decide (((k_0:Int)+1) < (l_.length:Int))=false:=by simp only[decide_eq_false_iff_not];omega
      exact zq9
 ·unfold aa Tryz.f148;try unfold cm
  exact zq1
def ir (i:Int)(n:Int):Bool:=((decide (i>=0))&&(decide (i<n)))
@[go_sem] def pl:List SV->Option Con:=(pI fun i=>(pI fun n=>(pE (.det True (.v (.bool (ir i n)))))))
theorem rT:FnOk Tryz.prog 150 pl:=by
 have hG:ConsOk Tryz.prog (mkG [] []):=am cg0 cg0;refine av [.o] mixed ai hG (fn:=Tryz.f150) (c:=aa Tryz.f150) kr kr kr kr (br fun i=>(br fun n=>(ah (fun hp=>?_))));dsimp only[an]at hp;refine⟨nbl rfl,L0,ag _,?_⟩
 ·unfold aa Tryz.f150;try unfold ir
  exact zq1
def vG (x:Ratio×Ratio):Bool:=(((((uN x.1 x.2).2==0)&&(decide (x.1.n>=0)))&&(decide ((uN x.1 x.2).1<=0)))&&(decide (x.2.n<=x.2.d)))
@[go_sem] def wL:List SV->Option Con:=(pD .ratio2 fun x=>(pE (.det True (.v (.bool (vG x))))))
theorem AO:FnOk Tryz.prog 201 wL:=by
 have hG:ConsOk Tryz.prog (mkG [(229,Ax)] []):=am (cgc Fg cg0) cg0;refine av [.o] mixed ai hG (fn:=Tryz.f201) (c:=aa Tryz.f201) kr kr kr kr (aF fun x=>(ah (fun hp=>?_)));dsimp only[an]at hp;refine⟨nbl rfl,L0,ag _,?_⟩
 ·unfold aa Tryz.f201;try unfold vG
  exact zq1
def sA (i:Int)(x:Reach):Bool:=letI q0:=cm ([0,x.evap.lo,x.evap.hi,1073741824]);letI q1:=cm ([0,x.siphon,x.bank,1099511627776]);letI q2:=cm ([0,x.siphon,x.cap,1073741824]);letI q3:=cm ([1,x.delay,16]);letI q4:=vG x.seep;(bif(decide (i > 0))then((((((ir x.up i)&&q3)&&q2)&&q1)&&q0)&&q4)else((((((x.up==(-1))&&q3)&&q2)&&q1)&&q0)&&q4))
@[go_sem] def wM:List SV->Option Con:=(pI fun i=>(pD .reach fun x=>(pE (.det True (.v (.bool (sA i x)))))))
theorem AP:FnOk Tryz.prog 149 wM:=by
 have hG:ConsOk Tryz.prog (mkG [(148,fun l=>ox (aP [.sl .int] l)),(150,pl),(201,wL)] []):=am (cgc (qy.norm [.sl .int]) (cgc rT (cgc AO cg0))) cg0;refine av [.o] mixed ai hG (fn:=Tryz.f149) (c:=aa Tryz.f149) kr kr kr kr (br fun i=>(aF fun x=>(ah (fun hp=>?_))));dsimp only[an]at hp;refine⟨nbl rfl,L0,ag _,?_⟩
 ·unfold aa Tryz.f149;try unfold sA
  exact zq1
def vH (a0:District)(a1:Right):Bool:=letI q0:=(a1.every==0)&&(a1.length==0);letI q1:=i64.wrap (a0.hours - 1);letI q2:=a1.reach==a1.reach;letI q3:=a1.name==a1.name;letI q4:=a1.kind==a1.kind;letI q5:=a1.farm==a1.farm;(bif(((!(ir a1.farm (a0.farms.length:Int))) ||(!(ir a1.reach (a0.reaches.length:Int)))) ||(!(cm ([0,a1.since,a1.to,q1]))))then false else(bif(a1.kind==1)then((((a1.reach==0)&&(cm ([0,a1.rank,1048576])))&&(cm ([1,a1.litres,1073741824])))&&(cm ([1,a1.length,a1.every,a0.hours])))else(bif(a1.kind==2)then(q3&&(q4&&(q5&&(q2&&((a1.rank==0)&&((a1.litres==0)&&((a1.since==0)&&((a1.to==q1)&&q0))))))))else(bif(a1.kind==3)then(q3&&(q4&&(q5&&(q2&&((a1.rank==0)&&((a1.litres==0)&&((a1.since==a1.since)&&((a1.to==a1.to)&&q0))))))))else false))))
@[go_sem] def wN:List SV->Option Con:=(pD .district fun a0=>(pD .right fun a1=>(pE (.det True (.v (.bool (vH a0 a1)))))))
theorem AQ:FnOk Tryz.prog 151 wN:=by
 have hG:ConsOk Tryz.prog (mkG [(148,fun l=>ox (aP [.sl .int] l)),(150,pl)] []):=am (cgc (qy.norm [.sl .int]) (cgc rT cg0)) cg0;refine av [.o] mixed ai hG (fn:=Tryz.f151) (c:=aa Tryz.f151) kr kr kr kr (aF fun a0=>(aF fun a1=>(ah (fun hp=>?_))));dsimp only[an]at hp;refine⟨nbl rfl,L0,ag _,?_⟩
 ·unfold aa Tryz.f151;try unfold vH
  exact zq1
@[go_sem] def pm (a0:District)(a1:Int)(k_0:Nat)(s_0:Unit):Unit⊕Unit:=(bif(dw (sA (k_0:Int) (a0.reaches.getD k_0 default)) a1)then .inr ()else .inl ())
@[go_sem] def pt (a0:District)(a1:Int)(k_1:Nat)(s_1:Unit):Unit⊕Unit:=(bif(dw (cm ([0,(a0.crops.getD k_1 default).need,1048576])) a1)then .inr ()else .inl ())
@[go_sem] def pu (a0:District)(a1:Int)(k_2:Nat)(s_2:Unit):Unit⊕Unit:=letI q0:=a0.farms.getD k_2 default;letI q1:=ir (q0.reach) (a0.reaches.length:Int);letI q2:=cm ([0,q0.area,1048576]);(bif(decide (q0.area > 0))then(bif(dw (((ir (q0.crop) (a0.crops.length:Int))&&q1)&&q2) a1)then .inr ()else .inl ())else(bif(dw (((q0.crop==(-1))&&q1)&&q2) a1)then .inr ()else .inl ()))
@[go_sem] def pw (a0:District)(a1:Int)(k_3:Nat)(s_3:Unit):Unit⊕Unit:=(bif(dw (vH a0 (a0.rights.getD k_3 default)) a1)then .inr ()else .inl ())
@[go_sem] def px (a0:District)(a1:Int)(k_4:Nat)(s_4:Unit):Unit⊕Unit:=letI q0:=a0.duties.getD k_4 default;(bif(dw (((ir (q0.farm) (a0.farms.length:Int))&&(ir (q0.reach) (a0.reaches.length:Int)))&&(cm ([0,q0.due,a0.hours]))) a1)then .inr ()else .inl ())
def Cz (a0:District)(a1:Int):Unit:=(bif(dw (((cm ([1,a0.hours,4096]))&&(cm ([0,a0.tank.start,a0.tank.cap,1099511627776])))&&(decide ((a0.reaches.length:Int) > 0))) a1)then(match aq (pm a0 a1) a0.reaches.length 0 ()with| .inl x_0_0=>default| .inr s_0=>(match aq (pt a0 a1) a0.crops.length 0 ()with| .inl x_1_0=>default| .inr s_1=>(match aq (pu a0 a1) a0.farms.length 0 ()with| .inl x_2_0=>default| .inr s_2=>(match aq (pw a0 a1) a0.rights.length 0 ()with| .inl x_3_0=>default| .inr s_3=>(match aq (px a0 a1) a0.duties.length 0 ()with| .inl x_4_0=>default| .inr s_4=>())))))else default)
def py (a0:District)(a1:Int):Bool:=(bif(dw (((cm ([1,a0.hours,4096]))&&(cm ([0,a0.tank.start,a0.tank.cap,1099511627776])))&&(decide ((a0.reaches.length:Int) > 0))) a1)then(match aq (pm a0 a1) a0.reaches.length 0 ()with| .inl x_0_0=>false| .inr s_0=>(match aq (pt a0 a1) a0.crops.length 0 ()with| .inl x_1_0=>false| .inr s_1=>(match aq (pu a0 a1) a0.farms.length 0 ()with| .inl x_2_0=>false| .inr s_2=>(match aq (pw a0 a1) a0.rights.length 0 ()with| .inl x_3_0=>false| .inr s_3=>(match aq (px a0 a1) a0.duties.length 0 ()with| .inl x_4_0=>false| .inr s_4=>true)))))else false)
@[go_sem] def uP:List SV->Option Con:=(pD .district fun a0=>(pI fun a1=>(pE (.may (py a0 a1) (.tup []) (.iface 214 (.int .i64 a1))))))
theorem y9:FnOk Tryz.prog 108 uP:=by
 have hG:ConsOk Tryz.prog (mkG [(107,rS),(148,fun l=>ox (aP [.sl .int] l)),(149,wM),(150,pl),(151,fun l=>wN (aP [.st .district,.st .right] l))] []):=am (cgc uO (cgc (qy.norm [.sl .int]) (cgc AP (cgc rT (cgc (AQ.norm [.st .district,.st .right]) cg0))))) cg0;refine av [] mixed ai hG (fn:=Tryz.f108) (c:=aa Tryz.f108) kr kr kr kr (aF fun a0=>(br fun a1=>(ah (fun hp=>?_))));dsimp only[an]at hp;refine⟨nbl rfl,(fun id st=>bif Nat.beq id 0 then some (LCR (ρ:=Unit) (σ:=Unit) 1 [] [0] (fun k_0 s_0=>⟨[(1,.v (.int .i64 a1)),(2,.ptr 0 0),(38,.rs .reach a0.reaches),(39,.v (.int .i64 (a0.reaches.length:Int))),(40,.v (.int .i64 (k_0:Int)))],[.cells (cellsOf .district a0)]⟩) (pm a0 a1) pT a0.reaches.length () (a0.reaches.length<=aA) (fun _=>.pan (.iface 214 (.int .i64 a1))) (fun x_0_0=>⟨[],[.dead]⟩) st)else bif Nat.beq id 2 then some (LCR (ρ:=Unit) (σ:=Unit) 1 [] [0] (fun k_1 s_1=>⟨[(1,.v (.int .i64 a1)),(2,.ptr 0 0),(52,.rs .crop a0.crops),(53,.v (.int .i64 (a0.crops.length:Int))),(54,.v (.int .i64 (k_1:Int)))],[.cells (cellsOf .district a0)]⟩) (pt a0 a1) pT a0.crops.length () (a0.crops.length<=aA) (fun _=>.pan (.iface 214 (.int .i64 a1))) (fun x_1_0=>⟨[],[.dead]⟩) st)else bif Nat.beq id 4 then some (LCR (ρ:=Unit) (σ:=Unit) 1 [] [0] (fun k_2 s_2=>⟨[(1,.v (.int .i64 a1)),(2,.ptr 0 0),(66,.rs .farm a0.farms),(67,.v (.int .i64 (a0.farms.length:Int))),(68,.v (.int .i64 (k_2:Int)))],[.cells (cellsOf .district a0)]⟩) (pu a0 a1) pT a0.farms.length () (a0.farms.length<=aA) (fun _=>.pan (.iface 214 (.int .i64 a1))) (fun x_2_0=>⟨[],[.dead]⟩) st)else bif Nat.beq id 6 then some (LCR (ρ:=Unit) (σ:=Unit) 1 [] [0] (fun k_3 s_3=>⟨[(1,.v (.int .i64 a1)),(2,.ptr 0 0),(103,.rs .right a0.rights),(104,.v (.int .i64 (a0.rights.length:Int))),(105,.v (.int .i64 (k_3:Int)))],[.cells (cellsOf .district a0)]⟩) (pw a0 a1) pT a0.rights.length () (a0.rights.length<=aA) (fun _=>.pan (.iface 214 (.int .i64 a1))) (fun x_3_0=>⟨[],[.dead]⟩) st)else bif Nat.beq id 8 then some (LCR (ρ:=Unit) (σ:=Unit) 1 [] [0] (fun k_4 s_4=>⟨[(1,.v (.int .i64 a1)),(2,.ptr 0 0),(116,.rs .duty a0.duties),(117,.v (.int .i64 (a0.duties.length:Int))),(118,.v (.int .i64 (k_4:Int)))],[.cells (cellsOf .district a0)]⟩) (px a0 a1) pT a0.duties.length () (a0.duties.length<=aA) (fun _=>.pan (.iface 214 (.int .i64 a1))) (fun x_4_0=>⟨[],[.dead]⟩) st)else none),?_,?_⟩
 ·unfold aa Tryz.f108;simp only[ak,true_and,and_true];refine⟨?_,?_,?_,?_,?_⟩
  ·refine bh mixed ai hG kr (fun _=>rfl) (a0.reaches.length:Int) rfl dV (fun hb0 k_0 s_0 hlt0 _ hw hc=>⟨L0,ag _,?_⟩) (fun hb0 s_0 hc=>?_)
   ·exact aL (jl [0])
   ·exact aK (jl [0])
  ·refine bh mixed ai hG kr (fun _=>rfl) (a0.crops.length:Int) rfl dV (fun hb1 k_1 s_1 hlt1 _ hw hc=>⟨L0,ag _,?_⟩) (fun hb1 s_1 hc=>?_)
   ·exact aL (jl [0])
   ·exact aK (jl [0])
  ·refine bh mixed ai hG kr (fun _=>rfl) (a0.farms.length:Int) rfl dV (fun hb2 k_2 s_2 hlt2 _ hw hc=>⟨L0,ag _,?_⟩) (fun hb2 s_2 hc=>?_)
   ·exact aL (jl [0])
   ·exact aK (jl [0])
  ·refine bh mixed ai hG kr (fun _=>rfl) (a0.rights.length:Int) rfl dV (fun hb3 k_3 s_3 hlt3 _ hw hc=>⟨L0,ag _,?_⟩) (fun hb3 s_3 hc=>?_)
   ·exact aL (jl [0])
   ·exact aK (jl [0])
  ·refine bh mixed ai hG kr (fun _=>rfl) (a0.duties.length:Int) rfl dV (fun hb4 k_4 s_4 hlt4 _ hw hc=>⟨L0,ag _,?_⟩) (fun hb4 s_4 hc=>?_)
   ·exact aL (jl [0])
   ·exact aK (jl [0])
 ·unfold aa Tryz.f108;try unfold Cz
  try unfold py
  exact zq1
def gO (d:District):Int:=(bif(dw (((((decide ((d.reaches.length:Int)<=64))&&(decide ((d.farms.length:Int)<=600)))&&(decide ((d.crops.length:Int)<=32)))&&(decide ((d.rights.length:Int)<=256)))&&(decide ((d.duties.length:Int)<=256))) 2)then(bif(py d 191)then 0 else 191)else 2)
@[go_sem] def sW:List SV->Option Con:=(pD .district fun d=>(pE (.det True (.v (.int .i64 (gO d))))))
theorem zq16 {p:Prop}(h:p:=by simp only[go_sem,Nat.reduceBEq,Nat.reduceLeDiff,Nat.reduceLT,decide_true,Nat.reduceAdd,Nat.reduceSub,Nat.reduceMul,Int.reduceLE,Int.reduceLT,Int.reduceToNat,Int.reduceNeg,reduceCtorEq,qx,oH,UB];all_goals exact cl):p:=h
theorem vT:FnOk Tryz.prog 57 sW:=by
 have hG:ConsOk Tryz.prog (mkG [(107,rS),(108,fun l=>uP (aP [.st .district,.o] l))] []):=am (cgc uO (cgc (y9.norm [.st .district,.o]) cg0)) cg0;refine Ux N8 [.o] mixed ai hG (fn:=Tryz.f57) (c0:=qx (aa Tryz.f57)) (c1:=oH (oH (aa Tryz.f57))) (i1:=Qs (qx (oH (aa Tryz.f57)))) (o1:=NI 0 (qx (oH (aa Tryz.f57)))) (o2:=NI 1 (qx (oH (aa Tryz.f57)))) (t3:=3) (q:=2) (tys:= #[]) kr kr kr (by refine⟨?_,?_,?_⟩ <;>kernel_rfl) (by refine⟨?_,?_,?_⟩ <;>kernel_rfl) (nbl rfl) kr kr (aF fun d=>(ah (fun hp=>?_)));dsimp only[an]at hp;refine⟨nbl rfl,L0,L0,1,?_,?_,?_⟩
 ·unfold aa Tryz.f57;simp only[qx,ak,and_self,true_and,and_true]
 ·unfold aa Tryz.f57;simp only[oH];simp only[ak,and_self,true_and,and_true]
 ·unfold aa Tryz.f57;try unfold gO
  exact zq16
def aT (n:Int)(most:Int):Bool:=((decide (n>=0))&&(decide (n<=most)))
@[go_sem] def nW:List SV->Option Con:=(pI fun n=>(pI fun most=>(pE (.det True (.v (.bool (aT n most)))))))
theorem ru:FnOk Tryz.prog 129 nW:=by
 have hG:ConsOk Tryz.prog (mkG [] []):=am cg0 cg0;refine av [.o] mixed ai hG (fn:=Tryz.f129) (c:=aa Tryz.f129) kr kr kr kr (br fun n=>(br fun most=>(ah (fun hp=>?_))));dsimp only[an]at hp;refine⟨nbl rfl,L0,ag _,?_⟩
 ·unfold aa Tryz.f129;try unfold aT
  exact zq1
def bk (s_:Int)(t:Int):Bool:=((nv .u64 s_ t) ==0)
@[go_sem] def nX:List SV->Option Con:=(pU fun s_=>(pU fun t=>(pE (.det True (.v (.bool (bk s_ t)))))))
theorem rv:FnOk Tryz.prog 81 nX:=by
 have hG:ConsOk Tryz.prog (mkG [] []):=am cg0 cg0;refine av [.o] mixed ai hG (fn:=Tryz.f81) (c:=aa Tryz.f81) kr kr kr kr (IZ fun s_=>(IZ fun t=>(ah (fun hp=>?_))));dsimp only[an]at hp;refine⟨nbl rfl,L0,ag _,?_⟩
 ·unfold aa Tryz.f81;try unfold bk
  exact zq1
@[go_sem] def gJ (l_:List Int)(many:Int)(k_0:Nat)(s_0:Int×Int):Unit⊕(Int×Int):=(bif((decide ((l_.getD k_0 0)<=s_0.2)) ||(decide ((l_.getD k_0 0)>=many)))then .inl ()else .inr ((orI .u64 s_0.1 (zK .u64 1 (l_.getD k_0 0))),(l_.getD k_0 0)))
def iJ (l_:List Int)(many:Int)(k_0:Nat)(s_0:Int×Int):Prop:=(((decide ((l_.getD k_0 0)<=s_0.2)) ||(decide ((l_.getD k_0 0)>=many)))=false->0<=(l_.getD k_0 0))
def ar (l_:List Int)(many:Int):Int×Bool:=(match aq (gJ l_ many) l_.length 0 (0,(-1))with| .inl x_0_0=>(0,false) | .inr s_0=>(s_0.1,true))
def gl (l_:List Int)(many:Int):Prop:=(l_.length<=aA->okI (gJ l_ many) (iJ l_ many) l_.length 0 (0,(-1)))
@[go_sem] def rU:List SV->Option Con:=(pR .int fun l_=>(pI fun many=>(pE (.det (gl l_ many) (.tup [.v (.int .u64 ((ar l_ many).1)),.v (.bool ((ar l_ many).2))])))))
theorem uQ:FnOk Tryz.prog 130 rU:=by
 have hG:ConsOk Tryz.prog (mkG [] []):=am cg0 cg0;refine av [.o,.o] mixed ai hG (fn:=Tryz.f130) (c:=aa Tryz.f130) kr kr kr kr (a_ fun l_=>(br fun many=>(ah (fun hp=>?_))));dsimp only[an]at hp;unfold gl at hp;refine⟨nbl rfl,(fun id st=>bif Nat.beq id 0 then some (LCR (ρ:=Unit) (σ:=(Int×Int)) 0 [] [] (fun k_0 s_0=>⟨[(1,.v (.int .i64 many)),(4,.v (.int .u64 s_0.1)),(6,.v (.int .i64 s_0.2)),(9,.rs .int l_),(10,.v (.int .i64 (l_.length:Int))),(11,.v (.int .i64 (k_0:Int)))],[]⟩) (gJ l_ many) (iJ l_ many) l_.length (0,(-1)) (l_.length<=aA) (fun _=>.ret) (fun x_0_0=>⟨[(4,.v (.int .u64 0)),(5,.v (.bool false))],[]⟩) st)else none),?_,?_⟩
 ·unfold aa Tryz.f130;simp only[ak,true_and,and_true]
  ·refine bh mixed ai hG kr (fun _=>rfl) (l_.length:Int) rfl dV (fun hb0 k_0 s_0 hlt0 hq0 hw hc=>⟨L0,ag _,?_⟩) (fun hb0 s_0 hc=>?_)
   ·unfold iJ at hq0;try simp only[hw,Int.toNat_natCast]at hq0
    exact aL (jl [])
   ·exact aK (jl [])
 ·unfold aa Tryz.f130;try unfold ar
  exact zq1
end Go.Sx
end
section
namespace Go.Sx
@[go_sem] theorem L1 {ts:Tis}{G:Cons}{L:tP}{t:List (Nat×SV)}{h:List Ob}{Q:Ex->St->Prop}{id j:Nat}{c:Code}:exec ts G L (.block id (.block j c)) ⟨t,h⟩ Q=exec ts G L (.block j c) ⟨t,h⟩ (Ex.block id Q):=(rfl)
def pXU {α:Type 1}(k:Int->List SV->Option α):List SV->Option α
 | .ep [.v (.int .u64 n)] 0::r=>k n r
 |_=>none
@[go_sem] theorem acx {α:Type 1}{k:Int->List SV->Option α}{n:Int}{r:List SV}:pXU k (.ep [.v (.int .u64 n)] 0::r)=k n r:=(rfl)
theorem Kv {α:Type 1}{G:List SV->α->Prop}{k:Int->List SV->Option α}(h:∀ n l c,k n l=some c->G (.ep [.v (.int .u64 n)] 0::l) c):∀ l c,pXU k l=some c->G l c:=by
 intro l c hc;unfold pXU at hc;split at hc
 ·exact h _ _ _ hc
 ·cases hc
end Go.Sx
end
section
namespace Go.Sx
open Go.Proofs
open IntKind (i64)
theorem sX {l0 l1:List Nat}(a0:JL l0)(a1:JL l1){p:Prop}(h:JL l0->JL l1->p:=by intro ja jb;(first|done|(repeat' (first|with_reducible refine And.intro ?_ ?_|((with_reducible show _≠_);first|assumption|omega|(simp_all [dQ,eX];done) |grind) |with_reducible intro _)) <;>(first|done|with_reducible exact Empty.elim ‹Empty› |with_reducible assumption|rfl|omega|assumption|decide|exact fk ja|exact fk jb|exact czl|(simp only[*,cond_true,cond_false,Bool.not_true,Bool.not_false,go_sem,Nat.reduceBEq,Nat.reduceLeDiff,Nat.reduceLT,decide_true,Nat.reduceAdd,Nat.reduceSub,Nat.reduceMul,Int.reduceLE,Int.reduceLT,Int.reduceToNat,Int.reduceNeg,reduceCtorEq];(repeat' (first|with_reducible refine And.intro ?_ ?_|((with_reducible show _≠_);first|assumption|omega|(simp_all [dQ,eX];done) |grind) |with_reducible intro _)) <;>(first|done|assumption|rfl|omega|decide|exact fk ja|exact fk jb|(simp_all [dQ,eX];done))) |(simp_all [okI,dQ,eX];done) |(simp_all [dQ,eX];(first|done|exact fk2 ja|exact fk2 jb)) |exact fk2 ja|exact fk2 jb))):p:=h a0 a1
theorem kg {l0 l1:List Nat}(a0:JL l0)(a1:JL l1){p:Prop}(h:JL l0->JL l1->p:=by intro ja jb;simp only[go_sem,Nat.reduceBEq,Nat.reduceLeDiff,Nat.reduceLT,decide_true,Nat.reduceAdd,Nat.reduceSub,Nat.reduceMul,Int.reduceLE,Int.reduceLT,Int.reduceToNat,Int.reduceNeg,reduceCtorEq,hc];all_goals exact sX ja jb):p:=h a0 a1
@[go_sem] def bj (a0:Cases)(k_0:Nat)(s_0:Int×Int):(Int×Int)⊕(Int×Int):=letI q0:=a0.sides.getD k_0 0;letI q1:=zK .u64 1 (k_0:Int);(bif(!(aT q0 1))then .inl (s_0.1,s_0.2)else(bif(decide (q0=0))then .inr ((orI .u64 s_0.1 q1),s_0.2)else(bif(decide (q0=1))then .inr (s_0.1,(orI .u64 s_0.2 q1))else .inr default)))
def dM (a0:Cases)(k_0:Nat)(s_0:Int×Int):Prop:=letI q0:=a0.sides.getD k_0 0;((!(aT q0 1))=false->(((decide (q0=0))=true->0<=(k_0:Int))/\((decide (q0=0))=false->(((decide (q0=1))=true->0<=(k_0:Int))/\((decide (q0=1))=false->False)))))
@[go_sem] def cC (a0:Cases)(s_0:Int×Int)(k_1:Nat)(s_1:List PrecedentsDecided×Int×Int×Int):(List PrecedentsDecided)⊕(List PrecedentsDecided×Int×Int×Int):=letI q0:=a0.cases.getD k_1 default;letI q4:=(a0.sides.length:Int);letI q1:=ar (q0.reason) q4;letI q2:=ar (q0.facts) q4;letI q3:=((s_1.1++([({ winner:=q0.winner,facts:=q2.1,reason:=q1.1}:PrecedentsDecided)])),q0.no,q0.hour,q0.winner);(bif(((((decide (q0.no<=s_1.2.1)) ||(!(aT (q0.no) 1048576))) ||(decide (q0.hour<s_1.2.2.1))) ||(!(aT (q0.hour) 4096))) ||(!(aT (q0.winner) 1)))then .inl s_1.1 else(bif(decide (q0.winner=0))then(bif(((!q2.2) ||(!q1.2)) ||(!(bk (q1.1) (wa .u64 (q2.1) s_0.1))))then .inl s_1.1 else .inr q3)else(bif(decide (q0.winner=1))then(bif(((!q2.2) ||(!q1.2)) ||(!(bk (q1.1) (wa .u64 (q2.1) s_0.2))))then .inl s_1.1 else .inr q3)else .inr default)))
def dN (a0:Cases)(s_0:Int×Int)(k_1:Nat)(s_1:List PrecedentsDecided×Int×Int×Int):Prop:=letI q0:=a0.cases.getD k_1 default;letI q1:=(a0.sides.length:Int);letI q3:=ar (q0.reason) q1;letI q4:=ar (q0.facts) q1;letI q2:=(s_1.1++([({ winner:=q0.winner,facts:=q4.1,reason:=q3.1}:PrecedentsDecided)])).length*24<=ez;letI q5:=decide (q0.winner=0);letI q6:=decide (q0.winner=1);((((((decide (q0.no<=s_1.2.1)) ||(!(aT (q0.no) 1048576))) ||(decide (q0.hour<s_1.2.2.1))) ||(!(aT (q0.hour) 4096))) ||(!(aT (q0.winner) 1)))=false->(a0.sides.length<=aA->((gl (q0.facts) q1)/\(a0.sides.length<=aA->((gl (q0.reason) q1)/\((q5=true->((((!q4.2) ||(!q3.2)) ||(!(bk (q3.1) (wa .u64 (q4.1) s_0.1))))=false->q2))/\(q5=false->((q6=true->((((!q4.2) ||(!q3.2)) ||(!(bk (q3.1) (wa .u64 (q4.1) s_0.2))))=false->q2))/\(q6=false->False)))))))))
def aH (a0:Cases):PrecedentsCourt×Int:=(bif((decide ((a0.sides.length:Int) > 32)) ||(decide ((a0.cases.length:Int) > 64)))then(({ favour:=(0,0),cases:=[]}:PrecedentsCourt),2)else(match aq (bj a0) a0.sides.length 0 (0,0)with| .inl x_0_0=>(({ favour:=(x_0_0.1,x_0_0.2),cases:=[]}:PrecedentsCourt),520) | .inr s_0=>(match aq (cC a0 s_0) a0.cases.length 0 ([],(-1),0,0)with| .inl x_1_0=>(({ favour:=(s_0.1,s_0.2),cases:=x_1_0}:PrecedentsCourt),520) | .inr s_1=>(({ favour:=(s_0.1,s_0.2),cases:=s_1.1}:PrecedentsCourt),0))))
def gb (a0:Cases):Prop:=letI q0:=bj a0;(a0.sides.length<=aA->(((decide ((a0.sides.length:Int) > 32)) ||(decide ((a0.cases.length:Int) > 64)))=false->(a0.sides.length<=aA->(okI q0 (dM a0) a0.sides.length 0 (0,0)/\(∀ s_0,aq q0 a0.sides.length 0 (0,0)=.inr s_0->(a0.cases.length<=aA->okI (cC a0 s_0) (dN a0 s_0) a0.cases.length 0 ([],(-1),0,0)))))))
@[go_sem] def pz:List SV->Option Con:=(pD .cases fun a0=>(pE (.det (gb a0) (.tup [.agg (cellsOf .precedentsCourt ((aH a0).1)),.v (.int .i64 ((aH a0).2))]))))
theorem zq20 {l0:List Nat}(a0:JL l0){p:Prop}(h:JL l0->p:=by intro ja;simp only[go_sem,Nat.reduceBEq,Nat.reduceLeDiff,Nat.reduceLT,decide_true,Nat.reduceAdd,Nat.reduceSub,Nat.reduceMul,Int.reduceLE,Int.reduceLT,Int.reduceToNat,Int.reduceNeg,reduceCtorEq,hc,hw,hs0,Int.reduceEq,Int.reduceBEq,decide_false];all_goals exact jr ja):p:=h a0
theorem zq21 {l0:List Nat}(a0:JL l0){p:Prop}(h:JL l0->p:=by intro ja;simp only[go_sem,Nat.reduceBEq,Nat.reduceLeDiff,Nat.reduceLT,decide_true,Nat.reduceAdd,Nat.reduceSub,Nat.reduceMul,Int.reduceLE,Int.reduceLT,Int.reduceToNat,Int.reduceNeg,reduceCtorEq,hc,hw,hs1,Int.reduceEq,Int.reduceBEq,decide_false];all_goals exact jr ja):p:=h a0
theorem zq22 {l0 l1:List Nat}(a0:JL l0)(a1:JL l1){p:Prop}(h:JL l0->JL l1->p:=by intro ja jb;simp only[go_sem,Nat.reduceBEq,Nat.reduceLeDiff,Nat.reduceLT,decide_true,Nat.reduceAdd,Nat.reduceSub,Nat.reduceMul,Int.reduceLE,Int.reduceLT,Int.reduceToNat,Int.reduceNeg,reduceCtorEq,hc,hw,hs0,Int.reduceEq,Int.reduceBEq,decide_false];all_goals exact sX ja jb):p:=h a0 a1
theorem zq23 {l0 l1:List Nat}(a0:JL l0)(a1:JL l1){p:Prop}(h:JL l0->JL l1->p:=by intro ja jb;simp only[go_sem,Nat.reduceBEq,Nat.reduceLeDiff,Nat.reduceLT,decide_true,Nat.reduceAdd,Nat.reduceSub,Nat.reduceMul,Int.reduceLE,Int.reduceLT,Int.reduceToNat,Int.reduceNeg,reduceCtorEq,hc,hw,hs1,Int.reduceEq,Int.reduceBEq,decide_false];all_goals exact sX ja jb):p:=h a0 a1
theorem sY:FnOk Tryz.prog 75 pz:=by
 have hG:ConsOk Tryz.prog (mkG [(81,nX),(129,nW),(130,fun l=>rU (aP [.sl .int,.o] l))] []):=am (cgc rv (cgc ru (cgc (uQ.norm [.sl .int,.o]) cg0))) cg0;refine av [.st .precedentsCourt,.o] mixed ai hG (fn:=Tryz.f75) (c:=aa Tryz.f75) kr kr kr kr (aF fun a0=>(ah (fun hp=>?_)));dsimp only[an]at hp;unfold gb at hp;refine⟨nbl rfl,(fun id st=>bif Nat.beq id 0 then some (LCR (ρ:=(Int×Int)) (σ:=(Int×Int)) 2 [] [0,1] (fun k_0 s_0=>⟨[(1,.ptr 0 0),(2,.ptr 1 0),(25,.rs .int a0.sides),(26,.v (.int .i64 (a0.sides.length:Int))),(27,.v (.int .i64 (k_0:Int)))],[.cells (cellsOf .cases a0),.cells [.v (.int .u64 s_0.1),.v (.int .u64 s_0.2),.v (.slice none 0 0)]]⟩) (bj a0) (dM a0) a0.sides.length (0,0) (a0.sides.length<=aA) (fun _=>.ret) (fun x_0_0=>⟨[(2,.ptr 1 0),(3,.v (.int .i64 520))],[.dead,.cells [.v (.int .u64 x_0_0.1),.v (.int .u64 x_0_0.2),.v (.slice none 0 0)]]⟩) st)else bif Nat.beq id 2 then some (LCR (ρ:=(List PrecedentsDecided)) (σ:=(List PrecedentsDecided×Int×Int×Int)) 3 [.cell 1 2 (.row .precedentsDecided ([]))] [0,1,2,3] (fun k_1 s_1=>⟨[(1,.ptr 0 0),(2,.ptr 1 0),(6,.ptr 2 0),(48,.rs .case a0.cases),(49,.v (.int .i64 (a0.cases.length:Int))),(50,.v (.int .i64 (k_1:Int)))],[.cells (cellsOf .cases a0),.cells [.v (.int .u64 (dQ (aq (bj a0) a0.sides.length 0 (0,0))).1),.v (.int .u64 (dQ (aq (bj a0) a0.sides.length 0 (0,0))).2),.os 3],.cells [.v (.int .i64 s_1.2.1),.v (.int .i64 s_1.2.2.1),.v (.int .i64 s_1.2.2.2),.any,.any],.row .precedentsDecided s_1.1]⟩) (cC a0 (dQ (aq (bj a0) a0.sides.length 0 (0,0)))) (dN a0 (dQ (aq (bj a0) a0.sides.length 0 (0,0)))) a0.cases.length ([],(-1),0,0) (a0.cases.length<=aA) (fun _=>.ret) (fun x_1_0=>⟨[(2,.ptr 1 0),(3,.v (.int .i64 520))],[.dead,.cells [.v (.int .u64 (dQ (aq (bj a0) a0.sides.length 0 (0,0))).1),.v (.int .u64 (dQ (aq (bj a0) a0.sides.length 0 (0,0))).2),.os 3],.dead,.row .precedentsDecided x_1_0]⟩) st)else none),?_,?_⟩
 ·unfold aa Tryz.f75;simp only[ak,true_and,and_true];refine⟨?_,?_⟩
  ·refine bh mixed ai hG kr (fun _=>rfl) (a0.sides.length:Int) rfl dV (fun hb0 k_0 s_0 hlt0 hq0 hw hc=>⟨L0,ag _,?_⟩) (fun hb0 s_0 hc=>?_)
   ·unfold dM at hq0;try simp only[hw,Int.toNat_natCast]at hq0
    by_cases hs0:(a0.sides.getD k_0 (0:Int))=0
    ·try simp only[hs0,decide_true,decide_false,Int.reduceEq,Bool.false_eq_true,Bool.true_eq_false,forall_const,true_imp_iff,false_imp_iff,and_true,true_and,reduceCtorEq]at hq0
     exact zq20 (jl [0,1])
    ·have hn0:=decide_eq_false hs0;by_cases hs1:(a0.sides.getD k_0 (0:Int))=1
     ·try simp only[hs1,decide_true,decide_false,Int.reduceEq,Bool.false_eq_true,Bool.true_eq_false,forall_const,true_imp_iff,false_imp_iff,and_true,true_and,reduceCtorEq]at hq0
      exact zq21 (jl [0,1])
     ·have hn1:=decide_eq_false hs1;simp only[go_sem,Nat.reduceBEq,Nat.reduceLeDiff,Nat.reduceLT,decide_true,Nat.reduceAdd,Nat.reduceSub,Nat.reduceMul,Int.reduceLE,Int.reduceLT,Int.reduceToNat,Int.reduceNeg,reduceCtorEq,hc,hw,hn0,hn1];all_goals (repeat' (first|with_reducible refine And.intro ?_ ?_|with_reducible intro _))
      all_goals first|exact jr (jl [0,1]) |(exfalso;simp_all;done)
   ·exact aK (jl [0,1])
  ·refine bh mixed ai hG kr (fun _=>rfl) (a0.cases.length:Int) rfl dV (fun hb1 k_1 s_1 hlt1 hq1 hw hc=>⟨L0,ag _,?_⟩) (fun hb1 s_1 hc=>?_)
   ·unfold dN at hq1;try simp only[hw,Int.toNat_natCast]at hq1
    by_cases hs0:(a0.cases.getD k_1 (default:Case)).winner=0
    ·try simp only[hs0,decide_true,decide_false,Int.reduceEq,Bool.false_eq_true,Bool.true_eq_false,forall_const,true_imp_iff,false_imp_iff,and_true,true_and,reduceCtorEq]at hq1
     exact zq22 (jl [0,1,2,6]) (jl [0,1,2,3])
    ·have hn0:=decide_eq_false hs0;by_cases hs1:(a0.cases.getD k_1 (default:Case)).winner=1
     ·try simp only[hs1,decide_true,decide_false,Int.reduceEq,Bool.false_eq_true,Bool.true_eq_false,forall_const,true_imp_iff,false_imp_iff,and_true,true_and,reduceCtorEq]at hq1
      exact zq23 (jl [0,1,2,6]) (jl [0,1,2,3])
     ·have hn1:=decide_eq_false hs1;simp only[go_sem,Nat.reduceBEq,Nat.reduceLeDiff,Nat.reduceLT,decide_true,Nat.reduceAdd,Nat.reduceSub,Nat.reduceMul,Int.reduceLE,Int.reduceLT,Int.reduceToNat,Int.reduceNeg,reduceCtorEq,hc,hw,hn0,hn1];all_goals (repeat' (first|with_reducible refine And.intro ?_ ?_|with_reducible intro _))
      all_goals first|exact sX (jl [0,1,2,6]) (jl [0,1,2,3]) |(exfalso;simp_all;done)
   ·exact kg (jl [0,1,2,6]) (jl [0,1,2,3])
 ·unfold aa Tryz.f75;try unfold aH
  exact zq1
def bS (b:Cases)(l_:List Int)(side:Int):PrecedentsCourt×Int×Int:=letI q0:=aH b;letI q1:=ar l_ (b.sides.length:Int);(bif(q0.2 !=0)then((q0.1),0,q0.2)else(bif(!q1.2)then((q0.1),0,520)else(bif(!(aT side 1))then((q0.1),0,1)else((q0.1),q1.1,0))))
def iE (b:Cases)(l_:List Int)(side:Int):Prop:=((gb b)/\(((aH b).2 !=0)=false->(b.sides.length<=aA->(gl l_ (b.sides.length:Int)))))
@[go_sem] def uR:List SV->Option Con:=(pD .cases fun b=>(pR .int fun l_=>(pI fun side=>(pE (.det (iE b l_ side) (.tup [.agg (cellsOf .precedentsCourt ((bS b l_ side).1)),.v (.int .u64 ((bS b l_ side).2.1)),.v (.int .i64 ((bS b l_ side).2.2))]))))))
theorem y_:FnOk Tryz.prog 79 uR:=by
 have hG:ConsOk Tryz.prog (mkG [(75,fun l=>pz (aP [.st .cases] l)),(129,nW),(130,fun l=>rU (aP [.sl .int,.o] l))] []):=am (cgc (sY.norm [.st .cases]) (cgc ru (cgc (uQ.norm [.sl .int,.o]) cg0))) cg0;refine av [.st .precedentsCourt,.o,.o] mixed ai hG (fn:=Tryz.f79) (c:=aa Tryz.f79) kr kr kr kr (aF fun b=>(a_ fun l_=>(br fun side=>(ah (fun hp=>?_)))));dsimp only[an]at hp;unfold iE at hp;refine⟨nbl rfl,L0,ag _,?_⟩
 ·unfold aa Tryz.f79;try unfold bS
  exact zq1
def e_ (c:PrecedentsCourt)(x:PrecedentsDecided)(facts:Int):Int:=(bif(decide ((i64.wrap (1 - x.winner))=0))then(nv .u64 (wa .u64 facts c.favour.1) x.facts)else(bif(decide ((i64.wrap (1 - x.winner))=1))then(nv .u64 (wa .u64 facts c.favour.2) x.facts)else default))
def eA (c:PrecedentsCourt)(x:PrecedentsDecided)(facts:Int):Prop:=((decide ((i64.wrap (1 - x.winner))=0))=false->((decide ((i64.wrap (1 - x.winner))=1))=false->False))
@[go_sem] def mI:List SV->Option Con:=(pD .precedentsCourt fun c=>(pD .precedentsDecided fun x=>(pU fun facts=>(pE (.det (eA c x facts) (.v (.int .u64 (e_ c x facts))))))))
theorem zq26 {p:Prop}(h:p:=by simp only[go_sem,Nat.reduceBEq,Nat.reduceLeDiff,Nat.reduceLT,decide_true,Nat.reduceAdd,Nat.reduceSub,Nat.reduceMul,Int.reduceLE,Int.reduceLT,Int.reduceToNat,Int.reduceNeg,reduceCtorEq,hs0,Int.reduceEq,Int.reduceBEq,decide_false];all_goals exact cl):p:=h
theorem zq27 {p:Prop}(h:p:=by simp only[go_sem,Nat.reduceBEq,Nat.reduceLeDiff,Nat.reduceLT,decide_true,Nat.reduceAdd,Nat.reduceSub,Nat.reduceMul,Int.reduceLE,Int.reduceLT,Int.reduceToNat,Int.reduceNeg,reduceCtorEq,hs1,Int.reduceEq,Int.reduceBEq,decide_false];all_goals exact cl):p:=h
theorem sB:FnOk Tryz.prog 82 mI:=by
 have hG:ConsOk Tryz.prog (mkG [] []):=am cg0 cg0;refine av [.o] mixed ai hG (fn:=Tryz.f82) (c:=aa Tryz.f82) kr kr kr kr (aF fun c=>(aF fun x=>(IZ fun facts=>(ah (fun hp=>?_)))));dsimp only[an]at hp;unfold eA at hp;refine⟨nbl rfl,L0,ag _,?_⟩
 ·unfold aa Tryz.f82;try unfold e_
  by_cases hs0:(i64.wrap (1 - x.winner))=0
  ·try simp only[hs0,decide_true,decide_false,Int.reduceEq,Bool.false_eq_true,Bool.true_eq_false,forall_const,true_imp_iff,false_imp_iff,and_true,true_and,reduceCtorEq]at hp
   exact zq26
  ·have hn0:=decide_eq_false hs0;by_cases hs1:(i64.wrap (1 - x.winner))=1
   ·try simp only[hs1,decide_true,decide_false,Int.reduceEq,Bool.false_eq_true,Bool.true_eq_false,forall_const,true_imp_iff,false_imp_iff,and_true,true_and,reduceCtorEq]at hp
    exact zq27
   ·have hn1:=decide_eq_false hs1;simp only[go_sem,Nat.reduceBEq,Nat.reduceLeDiff,Nat.reduceLT,decide_true,Nat.reduceAdd,Nat.reduceSub,Nat.reduceMul,Int.reduceLE,Int.reduceLT,Int.reduceToNat,Int.reduceNeg,reduceCtorEq,hn0,hn1];all_goals (repeat' (first|with_reducible refine And.intro ?_ ?_|with_reducible intro _))
    all_goals first|exact cl|(exfalso;simp_all;done)
def cp (b:Cases):Int:=(aH b).2
def fB (b:Cases):Prop:=(gb b)
@[go_sem] def kW:List SV->Option Con:=(pD .cases fun b=>(pE (.det (fB b) (.v (.int .i64 (cp b))))))
theorem nY:FnOk Tryz.prog 64 kW:=by
 have hG:ConsOk Tryz.prog (mkG [(75,fun l=>pz (aP [.st .cases] l))] []):=am (cgc (sY.norm [.st .cases]) cg0) cg0;refine av [.o] mixed ai hG (fn:=Tryz.f64) (c:=aa Tryz.f64) kr kr kr kr (aF fun b=>(ah (fun hp=>?_)));dsimp only[an]at hp;unfold fB at hp;refine⟨nbl rfl,L0,ag _,?_⟩
 ·unfold aa Tryz.f64;try unfold cp
  exact zq1
end Go.Sx
end
