/- Part of the proof that the law JudgementClash returns true and leaves its arguments as they were, for all arguments of bulk at most 1048576 (the Upto form). -/
import Derived.Test.YtnanafpgfihjfaaGreatJ507
import Derived.Test.YtnanafpgfihjfaaGreatProg
set_option linter.all false
set_option maxHeartbeats 4000000
set_option maxRecDepth 100000
section
namespace Go.Sx
open Go.Proofs
theorem kr {p:Prop}(h:p:=by kernel_rfl):p:=h
def ti3:TI:=⟨1,8,false,[(.v (.int .i64 0))],[],0,0,false,false,(some .int),(some .i64),false,[],none,none,1⟩
def ti4:TI:=⟨1,1,false,[(.v (.bool false))],[],0,0,false,false,(some .bool),none,false,[],none,none,3⟩
def ti9:TI:=⟨1,16,false,[(.v (.string (ByteArray.mk #[])))],[],0,0,false,false,(some .str),none,false,[],none,none,2⟩
def Q0:TI:=⟨2,16,true,[(.v (.int .i64 0)),(.v (.int .i64 0))],[(0,(1,false)),(1,(1,false))],0,0,false,false,(some .tank),none,false,[1,1],none,none,0⟩
def Q1:TI:=⟨1,24,false,[(.v (.slice none 0 0))],[],156,0,true,false,none,none,false,[],none,none,0⟩
def Q2:TI:=⟨1,24,false,[(.v (.slice none 0 0))],[],158,0,true,false,none,none,false,[],none,none,0⟩
def Q3:TI:=⟨1,24,false,[(.v (.slice none 0 0))],[],219,0,true,false,none,none,false,[],none,none,0⟩
def Q4:TI:=⟨1,24,false,[(.v (.slice none 0 0))],[],118,0,true,false,none,none,false,[],none,none,0⟩
def Q5:TI:=⟨1,24,false,[(.v (.slice none 0 0))],[],222,0,true,false,none,none,false,[],none,none,0⟩
def Q6:TI:=⟨10,184,true,[(.v (.string (ByteArray.mk #[]))),(.v (.int .i64 0)),(.v (.int .i64 0)),(.v (.int .i64 0)),(.v (.slice none 0 0)),(.v (.slice none 0 0)),(.v (.slice none 0 0)),(.v (.slice none 0 0)),(.v (.slice none 0 0)),(.v (.slice none 0 0))],[(0,(1,false)),(1,(1,false)),(2,(2,true)),(4,(1,false)),(5,(1,false)),(6,(1,false)),(7,(1,false)),(8,(1,false)),(9,(1,false))],0,0,false,false,(some .district),none,false,[],none,none,0⟩
def Jx:TI:=⟨1,24,false,[(.v (.slice none 0 0))],[],68,0,true,false,none,none,false,[],none,none,0⟩
def Q7:TI:=⟨1,24,false,[(.v (.slice none 0 0))],[],66,0,true,false,none,none,false,[],none,none,0⟩
def Q8:TI:=⟨1,8,false,[(.v .nilFunc)],[],0,0,false,false,(some .fnc),none,false,[],none,none,0⟩
def Q9:TI:=⟨1,24,false,[(.v (.slice none 0 0))],[],3,0,true,false,none,none,false,[],none,none,0⟩
def Q_:TI:=⟨1,24,false,[(.v (.slice none 0 0))],[],55,0,true,false,none,none,false,[],none,none,0⟩
def Ra:TI:=⟨2,48,true,[(.v (.slice none 0 0)),(.v (.slice none 0 0))],[(0,(1,false)),(1,(1,false))],0,0,false,false,(some .cases),none,false,[],none,none,0⟩
def Rb:TI:=⟨1,24,false,[(.v (.slice none 0 0))],[],62,0,true,false,none,none,false,[],none,none,0⟩
def Rc:TI:=⟨5,72,true,[(.v (.int .i64 0)),(.v (.int .i64 0)),(.v (.int .i64 0)),(.v (.slice none 0 0)),(.v (.slice none 0 0))],[(0,(1,false)),(1,(1,false)),(2,(1,false)),(3,(1,false)),(4,(1,false))],0,0,false,false,(some .case),none,false,[],none,none,0⟩
def Re:TI:=⟨1,24,false,[(.v (.slice none 0 0))],[],176,0,true,false,none,none,false,[],none,none,0⟩
def Rf:TI:=⟨2,48,true,[(.v (.slice none 0 0)),(.v (.slice none 0 0))],[(0,(1,false)),(1,(1,false))],0,0,false,false,(some .plea),none,false,[],none,none,0⟩
def Rg:TI:=⟨6,96,true,[(.v (.int .i64 0)),(.v (.int .i64 0)),(.v (.int .i64 0)),(.v (.slice none 0 0)),(.v (.slice none 0 0)),(.v (.slice none 0 0))],[(0,(1,false)),(1,(1,false)),(2,(1,false)),(3,(2,true)),(5,(1,false))],0,0,false,false,(some .suit),none,false,[],none,none,0⟩
def Rh:TI:=⟨1,8,false,[(.v (.map none))],[],4,0,false,false,none,none,false,[],(some .int),(some .bool),0⟩
def Ri:TI:=⟨9,72,true,[(.v (.int .i64 0)),(.v (.int .i64 0)),(.v (.int .i64 0)),(.v (.int .i64 0)),(.v (.int .i64 0)),(.v (.int .i64 0)),(.v (.int .i64 0)),(.v (.int .i64 0)),(.v (.int .i64 0))],[(0,(1,false)),(1,(1,false)),(2,(1,false)),(3,(1,false)),(4,(1,false)),(5,(1,false)),(6,(1,false)),(7,(1,false)),(8,(1,false))],0,0,false,false,(some .judgement),none,false,[1,1,1,1,1,1,1,1,1],none,none,0⟩
def Rj:TI:=⟨5,40,true,[(.v (.int .i64 0)),(.v (.int .i64 0)),(.v (.int .i64 0)),(.v (.int .i64 0)),(.v (.int .i64 0))],[(0,(1,false)),(1,(1,false)),(2,(1,false)),(3,(1,false)),(4,(1,false))],0,0,false,false,(some .claim),none,false,[1,1,1,1,1],none,none,0⟩
def Rk:TI:=⟨1,8,false,[(.v (.map none))],[],3,0,false,false,none,none,false,[],(some .int),(some .int),0⟩
def Rl:TI:=⟨1,8,false,[(.v (.map none))],[],98,0,false,false,none,none,false,[],(some .int),(some .fnc),0⟩
def KE:TI:=⟨10,88,true,[(.v (.string (ByteArray.mk #[]))),(.v (.int .i64 0)),(.v (.int .i64 0)),(.v (.int .i64 0)),(.v (.int .i64 0)),(.v (.int .i64 0)),(.v (.int .i64 0)),(.v (.int .i64 0)),(.v (.int .i64 0)),(.v (.int .i64 0))],[(0,(1,false)),(1,(1,false)),(2,(1,false)),(3,(1,false)),(4,(1,false)),(5,(1,false)),(6,(1,false)),(7,(1,false)),(8,(1,false)),(9,(1,false))],0,0,false,false,(some .right),none,false,[2,1,1,1,1,1,1,1,1,1],none,none,0⟩
def CZ:TI:=⟨1,8,false,[(.v (.int .u64 0))],[],0,0,false,false,none,(some .u64),false,[],none,none,1⟩
def KF:TI:=⟨2,16,true,[(.v (.int .u64 0)),(.v (.int .u64 0))],[],121,2,false,true,none,none,false,[1,1],none,none,0⟩
def KG:TI:=⟨1,24,false,[(.v (.slice none 0 0))],[],132,0,true,false,none,none,false,[],none,none,0⟩
def KH:TI:=⟨3,40,true,[(.v (.int .u64 0)),(.v (.int .u64 0)),(.v (.slice none 0 0))],[(0,(2,true)),(2,(1,false))],0,0,false,false,(some .precedentsCourt),none,false,[],none,none,0⟩
def KI:TI:=⟨3,24,true,[(.v (.int .i64 0)),(.v (.int .u64 0)),(.v (.int .u64 0))],[(0,(1,false)),(1,(1,false)),(2,(1,false))],0,0,false,false,(some .precedentsDecided),none,false,[1,1,1],none,none,0⟩
def KJ:TI:=⟨1,8,false,[(.v (.pointer none))],[],0,0,false,false,none,none,false,[],none,none,0⟩
def KK:TI:=⟨1,24,false,[(.v (.slice none 0 0))],[],198,0,true,false,none,none,false,[],none,none,0⟩
def KL:TI:=⟨4,64,true,[(.v (.slice none 0 0)),(.v (.slice none 0 0)),(.v (.map none)),(.v (.map none))],[(0,(2,true)),(2,(1,false)),(3,(1,false))],0,0,false,false,(some .pleasCourt),none,false,[],none,none,0⟩
def KM:TI:=⟨2,16,true,[(.v (.int .i64 0)),(.v (.int .i64 0))],[(0,(1,false)),(1,(1,false))],0,0,false,false,(some .ratio),none,false,[1,1],none,none,0⟩
def KN:TI:=⟨4,32,true,[(.v (.int .i64 0)),(.v (.int .i64 0)),(.v (.int .i64 0)),(.v (.int .i64 0))],[],151,2,false,true,(some .ratio2),none,false,[],none,none,0⟩
def KO:TI:=⟨2,16,true,[(.v (.int .i64 0)),(.v (.int .i64 0))],[(0,(1,false)),(1,(1,false))],0,0,false,false,(some .range),none,false,[1,1],none,none,0⟩
def KP:TI:=⟨12,104,true,[(.v (.string (ByteArray.mk #[]))),(.v (.int .i64 0)),(.v (.int .i64 0)),(.v (.int .i64 0)),(.v (.int .i64 0)),(.v (.int .i64 0)),(.v (.int .i64 0)),(.v (.int .i64 0)),(.v (.int .i64 0)),(.v (.int .i64 0)),(.v (.int .i64 0)),(.v (.int .i64 0))],[(0,(1,false)),(1,(1,false)),(2,(1,false)),(3,(1,false)),(4,(1,false)),(5,(1,false)),(6,(2,true)),(8,(4,true))],0,0,false,false,(some .reach),none,false,[],none,none,0⟩
def KQ:TI:=⟨4,40,true,[(.v (.string (ByteArray.mk #[]))),(.v (.int .i64 0)),(.v (.int .i64 0)),(.v (.int .i64 0))],[(0,(1,false)),(1,(1,false)),(2,(1,false)),(3,(1,false))],0,0,false,false,(some .farm),none,false,[2,1,1,1],none,none,0⟩
def KR:TI:=⟨5,56,true,[(.v (.int .i64 0)),(.v (.int .i64 0)),(.v (.int .i64 0)),(.v (.bool false)),(.v (.slice none 0 0))],[(0,(1,false)),(1,(1,false)),(2,(1,false)),(3,(1,false)),(4,(1,false))],0,0,false,false,(some .clause),none,false,[],none,none,0⟩
def KS:TI:=⟨1,8,false,[(.v .nilFunc)],[],0,0,false,false,none,none,false,[],none,none,0⟩
def KT:TI:=⟨3,24,true,[(.v (.int .i64 0)),(.v (.int .i64 0)),(.v (.bool false))],[(0,(1,false)),(1,(1,false)),(2,(1,false))],0,0,false,false,(some .reason),none,false,[1,1,3],none,none,0⟩
def KU:TI:=⟨2,24,true,[(.v (.string (ByteArray.mk #[]))),(.v (.int .i64 0))],[(0,(1,false)),(1,(1,false))],0,0,false,false,(some .crop),none,false,[2,1],none,none,0⟩
def KV:TI:=⟨4,40,true,[(.v (.string (ByteArray.mk #[]))),(.v (.int .i64 0)),(.v (.int .i64 0)),(.v (.int .i64 0))],[(0,(1,false)),(1,(1,false)),(2,(1,false)),(3,(1,false))],0,0,false,false,(some .duty),none,false,[2,1,1,1],none,none,0⟩
def KW:TI:=⟨1,24,false,[(.v (.slice none 0 0))],[],34,0,true,false,none,none,false,[],none,none,0⟩
def ts:Tis:=fun t=>(bif Nat.ble t 68 then(bif Nat.ble t 33 then(bif Nat.ble t 25 then(bif Nat.ble t 9 then(bif Nat.ble t 3 then(bif Nat.beq t 3 then some ti3 else none)else(bif Nat.ble t 4 then(bif Nat.beq t 4 then some ti4 else none)else(bif Nat.beq t 9 then some ti9 else none)))else(bif Nat.ble t 23 then(bif Nat.beq t 23 then some Q0 else none)else(bif Nat.ble t 24 then(bif Nat.beq t 24 then some Q1 else none)else(bif Nat.beq t 25 then some Q2 else none))))else(bif Nat.ble t 28 then(bif Nat.ble t 26 then(bif Nat.beq t 26 then some Q3 else none)else(bif Nat.ble t 27 then(bif Nat.beq t 27 then some Q4 else none)else(bif Nat.beq t 28 then some Q5 else none)))else(bif Nat.ble t 31 then(bif Nat.beq t 31 then some Q6 else none)else(bif Nat.ble t 32 then(bif Nat.beq t 32 then some Jx else none)else(bif Nat.beq t 33 then some Q7 else none)))))else(bif Nat.ble t 49 then(bif Nat.ble t 39 then(bif Nat.ble t 34 then(bif Nat.beq t 34 then some Q8 else none)else(bif Nat.ble t 36 then(bif Nat.beq t 36 then some ti3 else none)else(bif Nat.beq t 39 then some Q9 else none)))else(bif Nat.ble t 46 then(bif Nat.beq t 46 then some Q_ else none)else(bif Nat.ble t 48 then(bif Nat.beq t 48 then some Ra else none)else(bif Nat.beq t 49 then some Rb else none))))else(bif Nat.ble t 60 then(bif Nat.ble t 55 then(bif Nat.beq t 55 then some Rc else none)else(bif Nat.ble t 58 then(bif Nat.beq t 58 then some Re else none)else(bif Nat.beq t 60 then some Rf else none)))else(bif Nat.ble t 64 then(bif Nat.ble t 62 then(bif Nat.beq t 62 then some Rg else none)else(bif Nat.beq t 64 then some Rh else none))else(bif Nat.ble t 66 then(bif Nat.beq t 66 then some Ri else none)else(bif Nat.beq t 68 then some Rj else none))))))else(bif Nat.ble t 145 then(bif Nat.ble t 122 then(bif Nat.ble t 92 then(bif Nat.ble t 71 then(bif Nat.beq t 71 then some Rk else none)else(bif Nat.ble t 89 then(bif Nat.beq t 89 then some Rl else none)else(bif Nat.beq t 92 then some Jx else none)))else(bif Nat.ble t 118 then(bif Nat.beq t 118 then some KE else none)else(bif Nat.ble t 121 then(bif Nat.beq t 121 then some CZ else none)else(bif Nat.beq t 122 then some KF else none))))else(bif Nat.ble t 132 then(bif Nat.ble t 123 then(bif Nat.beq t 123 then some KG else none)else(bif Nat.ble t 125 then(bif Nat.beq t 125 then some KH else none)else(bif Nat.beq t 132 then some KI else none)))else(bif Nat.ble t 140 then(bif Nat.beq t 140 then some KJ else none)else(bif Nat.ble t 142 then(bif Nat.beq t 142 then some KK else none)else(bif Nat.beq t 145 then some KL else none)))))else(bif Nat.ble t 176 then(bif Nat.ble t 154 then(bif Nat.ble t 151 then(bif Nat.beq t 151 then some KM else none)else(bif Nat.ble t 152 then(bif Nat.beq t 152 then some KN else none)else(bif Nat.beq t 154 then some KO else none)))else(bif Nat.ble t 156 then(bif Nat.beq t 156 then some KP else none)else(bif Nat.ble t 158 then(bif Nat.beq t 158 then some KQ else none)else(bif Nat.beq t 176 then some KR else none))))else(bif Nat.ble t 211 then(bif Nat.ble t 178 then(bif Nat.beq t 178 then some KS else none)else(bif Nat.ble t 198 then(bif Nat.beq t 198 then some KT else none)else(bif Nat.beq t 211 then some CZ else none)))else(bif Nat.ble t 219 then(bif Nat.ble t 214 then(bif Nat.beq t 214 then some ti3 else none)else(bif Nat.beq t 219 then some KU else none))else(bif Nat.ble t 222 then(bif Nat.beq t 222 then some KV else none)else(bif Nat.beq t 229 then some KW else none)))))))
theorem UU:cU Tryz.prog 3=some ti3:=by kernel_rfl
theorem UV:cU Tryz.prog 4=some ti4:=by kernel_rfl
theorem UW:cU Tryz.prog 9=some ti9:=by kernel_rfl
theorem Rm:cU Tryz.prog 23=some Q0:=by kernel_rfl
theorem Ro:cU Tryz.prog 24=some Q1:=by kernel_rfl
theorem Rp:cU Tryz.prog 25=some Q2:=by kernel_rfl
theorem Rq:cU Tryz.prog 26=some Q3:=by kernel_rfl
theorem Rr:cU Tryz.prog 27=some Q4:=by kernel_rfl
theorem Rt:cU Tryz.prog 28=some Q5:=by kernel_rfl
theorem Ru:cU Tryz.prog 31=some Q6:=by kernel_rfl
theorem Rv:cU Tryz.prog 32=some Jx:=by kernel_rfl
theorem Rw:cU Tryz.prog 33=some Q7:=by kernel_rfl
theorem Rx:cU Tryz.prog 34=some Q8:=by kernel_rfl
theorem Ry:cU Tryz.prog 36=some ti3:=by kernel_rfl
theorem Rz:cU Tryz.prog 39=some Q9:=by kernel_rfl
theorem RA:cU Tryz.prog 46=some Q_:=by kernel_rfl
theorem RB:cU Tryz.prog 48=some Ra:=by kernel_rfl
theorem RD:cU Tryz.prog 49=some Rb:=by kernel_rfl
theorem RE:cU Tryz.prog 55=some Rc:=by kernel_rfl
theorem RG:cU Tryz.prog 58=some Re:=by kernel_rfl
theorem RH:cU Tryz.prog 60=some Rf:=by kernel_rfl
theorem RI:cU Tryz.prog 62=some Rg:=by kernel_rfl
theorem RJ:cU Tryz.prog 64=some Rh:=by kernel_rfl
theorem RK:cU Tryz.prog 66=some Ri:=by kernel_rfl
theorem RL:cU Tryz.prog 68=some Rj:=by kernel_rfl
theorem RM:cU Tryz.prog 71=some Rk:=by kernel_rfl
theorem RN:cU Tryz.prog 89=some Rl:=by kernel_rfl
theorem RO:cU Tryz.prog 92=some Jx:=by kernel_rfl
theorem Og:cU Tryz.prog 118=some KE:=by kernel_rfl
theorem Oh:cU Tryz.prog 121=some CZ:=by kernel_rfl
theorem Oi:cU Tryz.prog 122=some KF:=by kernel_rfl
theorem Oj:cU Tryz.prog 123=some KG:=by kernel_rfl
theorem Ok:cU Tryz.prog 125=some KH:=by kernel_rfl
theorem Ol:cU Tryz.prog 132=some KI:=by kernel_rfl
theorem Om:cU Tryz.prog 140=some KJ:=by kernel_rfl
theorem On:cU Tryz.prog 142=some KK:=by kernel_rfl
theorem Oo:cU Tryz.prog 145=some KL:=by kernel_rfl
theorem Oq:cU Tryz.prog 151=some KM:=by kernel_rfl
theorem Ot:cU Tryz.prog 152=some KN:=by kernel_rfl
theorem Ou:cU Tryz.prog 154=some KO:=by kernel_rfl
theorem Ov:cU Tryz.prog 156=some KP:=by kernel_rfl
theorem Ow:cU Tryz.prog 158=some KQ:=by kernel_rfl
theorem Ox:cU Tryz.prog 176=some KR:=by kernel_rfl
theorem Oy:cU Tryz.prog 178=some KS:=by kernel_rfl
theorem Oz:cU Tryz.prog 198=some KT:=by kernel_rfl
theorem OA:cU Tryz.prog 211=some CZ:=by kernel_rfl
theorem OB:cU Tryz.prog 214=some ti3:=by kernel_rfl
theorem OC:cU Tryz.prog 219=some KU:=by kernel_rfl
theorem OD:cU Tryz.prog 222=some KV:=by kernel_rfl
theorem OE:cU Tryz.prog 229=some KW:=by kernel_rfl
theorem ak:Tis.ok ts Tryz.prog:=(Tis.ok_node (Tis.ok_node (Tis.ok_node (Tis.ok_node (Tis.ok_node (Tis.ok_leaf UU) (Tis.ok_node (Tis.ok_leaf UV) (Tis.ok_leaf UW))) (Tis.ok_node (Tis.ok_leaf Rm) (Tis.ok_node (Tis.ok_leaf Ro) (Tis.ok_leaf Rp)))) (Tis.ok_node (Tis.ok_node (Tis.ok_leaf Rq) (Tis.ok_node (Tis.ok_leaf Rr) (Tis.ok_leaf Rt))) (Tis.ok_node (Tis.ok_leaf Ru) (Tis.ok_node (Tis.ok_leaf Rv) (Tis.ok_leaf Rw))))) (Tis.ok_node (Tis.ok_node (Tis.ok_node (Tis.ok_leaf Rx) (Tis.ok_node (Tis.ok_leaf Ry) (Tis.ok_leaf Rz))) (Tis.ok_node (Tis.ok_leaf RA) (Tis.ok_node (Tis.ok_leaf RB) (Tis.ok_leaf RD)))) (Tis.ok_node (Tis.ok_node (Tis.ok_leaf RE) (Tis.ok_node (Tis.ok_leaf RG) (Tis.ok_leaf RH))) (Tis.ok_node (Tis.ok_node (Tis.ok_leaf RI) (Tis.ok_leaf RJ)) (Tis.ok_node (Tis.ok_leaf RK) (Tis.ok_leaf RL)))))) (Tis.ok_node (Tis.ok_node (Tis.ok_node (Tis.ok_node (Tis.ok_leaf RM) (Tis.ok_node (Tis.ok_leaf RN) (Tis.ok_leaf RO))) (Tis.ok_node (Tis.ok_leaf Og) (Tis.ok_node (Tis.ok_leaf Oh) (Tis.ok_leaf Oi)))) (Tis.ok_node (Tis.ok_node (Tis.ok_leaf Oj) (Tis.ok_node (Tis.ok_leaf Ok) (Tis.ok_leaf Ol))) (Tis.ok_node (Tis.ok_leaf Om) (Tis.ok_node (Tis.ok_leaf On) (Tis.ok_leaf Oo))))) (Tis.ok_node (Tis.ok_node (Tis.ok_node (Tis.ok_leaf Oq) (Tis.ok_node (Tis.ok_leaf Ot) (Tis.ok_leaf Ou))) (Tis.ok_node (Tis.ok_leaf Ov) (Tis.ok_node (Tis.ok_leaf Ow) (Tis.ok_leaf Ox)))) (Tis.ok_node (Tis.ok_node (Tis.ok_leaf Oy) (Tis.ok_node (Tis.ok_leaf Oz) (Tis.ok_leaf OA))) (Tis.ok_node (Tis.ok_node (Tis.ok_leaf OB) (Tis.ok_leaf OC)) (Tis.ok_node (Tis.ok_leaf OD) (Tis.ok_leaf OE)))))))
@[go_sem] theorem ts_3:ts 3=some ti3:=(rfl)
@[go_sem] theorem ts_4:ts 4=some ti4:=(rfl)
@[go_sem] theorem ts_9:ts 9=some ti9:=(rfl)
@[go_sem] theorem ts_23:ts 23=some Q0:=(rfl)
@[go_sem] theorem ts_24:ts 24=some Q1:=(rfl)
@[go_sem] theorem ts_25:ts 25=some Q2:=(rfl)
@[go_sem] theorem ts_26:ts 26=some Q3:=(rfl)
@[go_sem] theorem ts_27:ts 27=some Q4:=(rfl)
@[go_sem] theorem ts_28:ts 28=some Q5:=(rfl)
@[go_sem] theorem ts_31:ts 31=some Q6:=(rfl)
@[go_sem] theorem ts_32:ts 32=some Jx:=(rfl)
@[go_sem] theorem ts_33:ts 33=some Q7:=(rfl)
@[go_sem] theorem ts_34:ts 34=some Q8:=(rfl)
@[go_sem] theorem ts_36:ts 36=some ti3:=(rfl)
@[go_sem] theorem ts_39:ts 39=some Q9:=(rfl)
@[go_sem] theorem ts_46:ts 46=some Q_:=(rfl)
@[go_sem] theorem ts_48:ts 48=some Ra:=(rfl)
@[go_sem] theorem ts_49:ts 49=some Rb:=(rfl)
@[go_sem] theorem ts_55:ts 55=some Rc:=(rfl)
@[go_sem] theorem ts_58:ts 58=some Re:=(rfl)
@[go_sem] theorem ts_60:ts 60=some Rf:=(rfl)
@[go_sem] theorem ts_62:ts 62=some Rg:=(rfl)
@[go_sem] theorem ts_64:ts 64=some Rh:=(rfl)
@[go_sem] theorem ts_66:ts 66=some Ri:=(rfl)
@[go_sem] theorem ts_68:ts 68=some Rj:=(rfl)
@[go_sem] theorem ts_71:ts 71=some Rk:=(rfl)
@[go_sem] theorem ts_89:ts 89=some Rl:=(rfl)
@[go_sem] theorem ts_92:ts 92=some Jx:=(rfl)
@[go_sem] theorem abS:ts 118=some KE:=(rfl)
@[go_sem] theorem abT:ts 121=some CZ:=(rfl)
@[go_sem] theorem abU:ts 122=some KF:=(rfl)
@[go_sem] theorem abV:ts 123=some KG:=(rfl)
@[go_sem] theorem abW:ts 125=some KH:=(rfl)
@[go_sem] theorem abX:ts 132=some KI:=(rfl)
@[go_sem] theorem abY:ts 140=some KJ:=(rfl)
@[go_sem] theorem abZ:ts 142=some KK:=(rfl)
@[go_sem] theorem ab0:ts 145=some KL:=(rfl)
@[go_sem] theorem ab1:ts 151=some KM:=(rfl)
@[go_sem] theorem ab2:ts 152=some KN:=(rfl)
@[go_sem] theorem ab3:ts 154=some KO:=(rfl)
@[go_sem] theorem ab4:ts 156=some KP:=(rfl)
@[go_sem] theorem ab5:ts 158=some KQ:=(rfl)
@[go_sem] theorem ab6:ts 176=some KR:=(rfl)
@[go_sem] theorem ab7:ts 178=some KS:=(rfl)
@[go_sem] theorem ab8:ts 198=some KT:=(rfl)
@[go_sem] theorem ab9:ts 211=some CZ:=(rfl)
@[go_sem] theorem ab_:ts 214=some ti3:=(rfl)
@[go_sem] theorem aca:ts 219=some KU:=(rfl)
@[go_sem] theorem acb:ts 222=some KV:=(rfl)
@[go_sem] theorem acd:ts 229=some KW:=(rfl)
attribute [go_sem] ti3 ti4 ti9 Q0 Q1 Q2 Q3 Q4 Q5 Q6 Jx Q7 Q8 Q9 Q_ Ra Rb Rc Re Rf Rg Rh Ri Rj Rk Rl KE CZ KF KG KH KI KJ KK KL KM KN KO KP KQ KR KS KT KU KV KW
theorem mixed:Tryz.prog.follows .mixedOrders=true:=by kernel_rfl
def lI:List SV->Option Con
 | [.v (.iface t (.int .i64 e))] =>bif Nat.beq t 214 then some (.det True (.i e))else none
 |_=>none
theorem As:FnOk Tryz.prog 106 lI:=by
 have hG:ConsOk Tryz.prog (mkG [] []):=ar (by simp) (by simp);refine ay [.o] mixed ak hG (fn:=Tryz.f106) (c:=ae Tryz.f106) kr kr kr kr fun l con h hp=>?_;unfold lI at h;split at h
 ·rename_i t e;cases ht:Nat.beq t 214 with
  |false=>rw[ht]at h;cases h
  |true=>
   rw[ht]at h;cases h;have ht':=Nat.eq_of_beq_eq_true ht;subst ht';refine⟨nbl rfl,L0,by unfold ae Tryz.f106;simp only[am,and_self],?_⟩;unfold ae Tryz.f106;simp only[go_sem,true_imp_iff,false_imp_iff,Nat.reduceBEq,Nat.reduceLeDiff,Nat.reduceAdd,Nat.reduceSub,Nat.reduceMul,true_and,and_true,implies_true,reduceCtorEq]
 ·cases h
def UX:Value->Option SV
 | .iface t (.int .i64 e) =>bif Nat.beq t 214 then some (.i e)else none
 |_=>none
theorem OF:HH Tryz.prog 105 UX:=by
 obtain⟨fn,hfn,hbody,hn,hres⟩:∃ fn,Tryz.prog.funcs[105]? =some fn/\fn.body=some (ae Tryz.f105)/\fn.ntmps=7/\fn.results= #[]:=⟨Tryz.f105,by kernel_rfl,by kernel_rfl,by kernel_rfl,by kernel_rfl⟩;have hG:ConsOk Tryz.prog (mkG [(106,lI)] []):=ar (by
  intro x hx;simp only[List.mem_cons,List.not_mem_nil,or_false]at hx;rcases hx with rfl;exact As) (by simp)
 refine⟨fun args w=>by kernel_rfl,fun p w=>?_,?_⟩
 ·refine callsDIn_of_wpSIn hfn hbody trivial fun c₀ cs hu=>?_;unfold ae Tryz.f105;refine wpSIn_seq (wpSIn_region ?_);simp[wpOpsSIn,go_sem,recoverD,hu,hn,Exit.thenS,Oper.about,Region.wanted];refine wpSIn_seq (wpSIn_region ?_);simp[wpOpsSIn,go_sem,recoverD,hu,Exit.thenS,Oper.about,Region.wanted];refine wpSIn_cond (t:=false) (by simp[Act.eval]) ?_;simp only[Bool.false_eq_true,if_false];refine wpSIn_of_wpIn rfl (wpIn_skip ?_);cases c₀;simp_all [bodyPostS,results]
 ·intro x s hx F own w h id hd b y hfw hp hob ho hpb;unfold UX at hx;split at hx
  ·rename_i t e;cases ht:Nat.beq t 214 with
   |false=>rw[ht]at hx;cases hx
   |true=>
    rw[ht]at hx;cases hx;have ht':=Nat.eq_of_beq_eq_true ht;subst ht';refine callsDIn_of_wpSIn hfn hbody trivial fun c₀ cs hu=>?_;unfold ae Tryz.f105;refine wpSIn_seq (wpSIn_region ?_);simp[wpOpsSIn,go_sem,recoverD,hu,hn,Exit.thenS,Oper.about,Region.wanted];refine wpSIn_seq (wpSIn_region ?_);simp[wpOpsSIn,go_sem,recoverD,hu,Exit.thenS,Oper.about,Region.wanted];refine wpSIn_cond (t:=true) (by simp[Act.eval]) ?_;simp only[if_true];refine wpSIn_of_wpIn rfl ?_;have hr:StRel F { w:=w,own:=own} 7 own ⟨[(0,.ptr id 0),(1,.v (.iface 214 (.int .i64 e)))],h⟩ { tmps:= #[.pointer (some ⟨b,0,none⟩),.iface 214 (.int .i64 e),.iface 214 (.int .i64 e),.iface 214 (.int .i64 e),.bool true,undef,undef],defers:=[]} w:=by
     refine⟨rfl,Dfr.nil,hp,Fr.refl { w:=w,own:=own},fun t=>?_⟩;rw[oN];by_cases h0:0=t
     ·subst h0;rw[if_pos rfl];exact .ptr ho hpb
     ·rw[if_neg h0,oN];by_cases h1:1=t
      ·subst h1;rw[if_pos rfl];exact .v _
      ·rw[if_neg h1];exact .any _
    refine wpIn_mono (vQ (ts:=ts) (L:=L0) (Q:=fun st=>st.h=bA h id (.cells [.i e])) mixed ak hG kr ?_ hr) ?_
    ·simp only[go_sem,hob,vP (h:=h) (i:=id) (o:=.cells [.v (.int .i64 e)]) rfl hfw,lI,Nat.reduceBEq,Nat.reduceLeDiff,Nat.reduceAdd,true_and,and_true,true_imp_iff]
    ·rintro ex a' w' ⟨rfl,own1,st1,hst1,hh⟩;have hd0:a'.defers=[]:=by
      obtain⟨ms,Ds,q0,q1,q2,q3⟩:=hst1.defers;cases Ds with
      |nil=>rw[q0];simp at q1;simp[q1]
      |cons D r=>
       obtain⟨m1,m2,_⟩:=q3 D (by simp);have:=hp.foreign D m2;simp only at m1;omega
     refine⟨hd0,.panicking [{ v:=.iface 214 (.int .i64 e),recovered:=true}],?_,_,by simp[results,hres];rfl,⟨_,rfl⟩,rfl,own1,hh▸hst1.hp,hst1.fr⟩;cases c₀;simp_all
  ·cases hx
attribute [go_sem] lI
abbrev SV.u (n:Nat):SV:=.v (.int .u64 (n:Int))
def C0 (ps:List (Nat×(List SV->Option Con)))(os:List (Nat×(List SV->List Ob->Option HCon)))(Y:List SV->Res->Option YCon):Cons:=⟨mkP ps,mkO os,Y⟩
@[go_sem] theorem ace {ps:List (Nat×(List SV->Option Con))}{os:List (Nat×(List SV->List Ob->Option HCon))}{Y:List SV->Res->Option YCon}:(C0 ps os Y).p=mkP ps:=(rfl)
@[go_sem] theorem acf {ps:List (Nat×(List SV->Option Con))}{os:List (Nat×(List SV->List Ob->Option HCon))}{Y:List SV->Res->Option YCon}:(C0 ps os Y).o=mkO os:=(rfl)
@[go_sem] theorem acg {ps:List (Nat×(List SV->Option Con))}{os:List (Nat×(List SV->List Ob->Option HCon))}{Y:List SV->Res->Option YCon}:(C0 ps os Y).y=Y:=(rfl)
theorem BI {P:Program}{ps:List (Nat×(List SV->Option Con))}{os:List (Nat×(List SV->List Ob->Option HCon))}{Y:List SV->Res->Option YCon}(h1:∀ x∈ps,FnOk P x.1 x.2)(h2:∀ x∈os,FnOkO P x.1 x.2)(h3:YOk P Y):ConsOk P (C0 ps os Y):=⟨Jt ps h1,Ju os h2,h3⟩
def C90:List SV->List Ob->Option HCon:=fun l h=>noH h ((pU fun n=>pU fun d=>pE { α:=Unit,pre:=True,post:=fun _=>True,res:=fun _=>.ret (.fn 271 [] [.ptr 0 0,.ptr 1 0]) [.cells [.v (.int .u64 n)],.cells [.v (.int .u64 d)]]}) l)
theorem UY:FnOkO Tryz.prog 268 C90:=by
 have hG:ConsOk Tryz.prog (mkG [] []):=ar (by simp) (by simp);refine Hz mixed ak hG (fn:=Tryz.f268) (c:=ae Tryz.f268) kr kr kr kr fun l o con h hp=>?_;unfold C90 at h;obtain⟨rfl,h⟩:=QV h;obtain⟨n,l0,rfl,h0⟩:=Ar h;obtain⟨d,l1,rfl,h1⟩:=Ar h0;obtain⟨rfl,rfl⟩:=CT h1;refine⟨nbl rfl,L0,by unfold ae Tryz.f268;simp only[am,and_self],?_⟩;unfold ae Tryz.f268;simp only[go_sem,true_imp_iff,decide_eq_true_eq,Nat.reduceBEq,Nat.reduceLeDiff,Nat.reduceAdd,Nat.reduceSub,Nat.reduceMul,true_and,and_true,implies_true];refine⟨(),_,_,[0,1],rfl,?_⟩;simp only[go_sem,Nat.reduceBEq,Nat.reduceLeDiff,Nat.reduceAdd,true_and,and_true];exact⟨rfl,rfl⟩
def At:Nat->Nat->Nat->List Nat
 |0,n,d=>if n=0 then []else [n,d]
 |f+1,n,d=>if n=0 then []else n::(if n % max d 1=0 then [d]else At f d (n % max d 1))
def rN (f n d:Nat):List (List SV):=(At f n d).map fun x=>[SV.u x]
theorem OG (f d:Nat):rN f 0 d=[]:=by cases f <;>rfl
theorem OH {f n d:Nat}(hn:n≠0)(hf:d<=f):∃ T,rN f n d=[SV.u n]::T/\(n % max d 1=0->T=[[SV.u d]])/\(n % max d 1≠0->∃ f',T=rN f' d (n % max d 1)/\n % max d 1<=f'/\n % max d 1<d):=by
 cases f with
 |zero=>
  have hd:d=0:=by omega
  subst hd;refine⟨[[SV.u 0]],by simp[rN,At,hn],fun _=>rfl,fun h=>?_⟩;exfalso;apply h;simp[Nat.mod_one]
 |succ f=>
  by_cases h0:n % max d 1=0
  ·exact⟨[[SV.u d]],by simp[rN,At,hn,h0],fun _=>rfl,fun h=>absurd h0 h⟩
  ·refine⟨rN f d (n % max d 1),by simp[rN,At,hn,h0],fun h=>absurd h h0,fun _=>⟨f,rfl,?_⟩⟩;have hlt:n % max d 1<max d 1:=Nat.mod_lt _ (by omega);have hd:1<=d:=by
    rcases Nat.eq_zero_or_pos d with h|h
    ·subst h;exfalso;apply h0;simp[Nat.mod_one]
    ·exact h
   omega
theorem OI (n d:Nat):((n:Int).tmod (if(d:Int) <1 then 1 else(d:Int)))=((n % max d 1:Nat):Int):=by
 have e:(if(d:Int) <1 then(1:Int)else(d:Int))=((max d 1:Nat):Int):=by split <;>omega
 rw[e,Int.tmod_eq_emod_of_nonneg (by omega)];rfl
open Classical in
theorem UZ (n0 d0:Nat):FV Tryz.prog 271 (fun y=>[y,.ptr 1 0,.ptr 2 0]) [.cells [SV.u n0],.cells [SV.u d0]] (rN d0 n0 d0):=by
 refine S8 (fun r hr hy=>?_) (fun args w=>by kernel_rfl);have hG:ConsOk Tryz.prog (C0 [] [] (itY (rN d0 n0 d0) r)):=BI (by simp) (by simp) hy;refine⟨fun l h=>if l=[.os 0,.ptr 1 0,.ptr 2 0]/\h=[.ab (r 1),.cells [SV.u n0],.cells [SV.u d0]]then some { α:=Nat,pre:=True,post:=fun j=>j=0\/j=(rN d0 n0 d0).length+1,res:=fun j=>.ret (.tup []) [.ab (r j),.dead,.dead]}else none,
  ?_,_,if_pos ⟨rfl,rfl⟩,trivial,fun j hj=>⟨_,j,_,rfl,hj⟩⟩
 refine Hz mixed ak hG (fn:=Tryz.f271) (c:=ae Tryz.f271) kr kr kr kr fun l o con h hp=>?_;split at h
 ·rename_i hlo;obtain⟨rfl,rfl⟩:=hlo;cases h;refine⟨nbl rfl,fun id st=>bif Nat.beq id 0 then some { α:=Nat×Bool,pre:=lk 0 st.t=.os 0/\lk 1 st.t=.ptr 1 0/\lk 2 st.t=.ptr 2 0/\st.h=[.ab (r 1),.cells [SV.u n0],.cells [SV.u d0]],post:=fun j=>j.1=0\/j.1=(rN d0 n0 d0).length+1,ex:=fun j=>bif j.2 then .ret else .normal,out:=fun j=>⟨[],[.ab (r j.1),.dead,.dead]⟩:LCon}else none,?_,?_⟩
  ·unfold ae Tryz.f271;simp only[am,true_and,and_true];refine HA mixed ak hG kr fun st lc hC hp=>?_;simp only[go_sem,Nat.reduceBEq,Option.some.injEq]at hC;subst hC;obtain⟨t,h⟩:=st;dsimp only at hp;obtain⟨h0,h1,h2,rfl⟩:=hp;refine⟨Nat×Nat×Nat×Nat,fun x=>⟨[(0,.os 0),(1,.ptr 1 0),(2,.ptr 2 0)],[.ab (r (x.1+1)),.cells [SV.u x.2.2.1],.cells [SV.u x.2.2.2]]⟩,fun x=>x.2.2.2<=x.2.1/\(rN d0 n0 d0).drop x.1=rN x.2.1 x.2.2.1 x.2.2.2/\x.1<=(rN d0 n0 d0).length,fun x=>x.2.2.2,(0,d0,n0,d0),[0,1,2],⟨Nat.le_refl _,rfl,Nat.zero_le _⟩,Nat.le_refl _,?_,?_⟩
   ·simp only[go_sem,h0,h1,h2,Nat.reduceBEq,Nat.reduceLeDiff,Nat.reduceAdd,true_and,and_true];decide
   ·rintro⟨k,f,n,d⟩ ⟨hf,hdrop,hk⟩;simp only at hf hdrop hk;refine⟨L0,_,by simp only[am,and_self],fun _ _ q=>q,?_⟩;simp only[go_sem,N_ hr,true_imp_iff,decide_eq_true_eq,OI,Bool.false_eq_true,false_imp_iff,Nat.reduceBEq,Nat.reduceLeDiff,Nat.reduceAdd,Nat.reduceSub,Nat.reduceMul,true_and,and_true,implies_true];have hget:∀ (l:List (List SV)) (j:Nat),l=(rN d0 n0 d0).drop k->(rN d0 n0 d0)[k+j]? =l[j]?:=fun l j e=>by rw[e,List.getElem?_drop]
    have hlen:(rN f n d).length=(rN d0 n0 d0).length - k:=by rw[<-hdrop,List.length_drop]
    refine⟨fun hn=>?_,fun hn=>?_⟩
    ·have hn':n≠0:=by simpa using hn
     obtain⟨T,e1,e2,e3⟩:=OH hn' hf;have hT:(rN d0 n0 d0).drop (k+1)=T:=by rw[<-List.drop_drop,hdrop,e1];rfl
     have h0':=hget _ 0 hdrop.symm;rw[e1]at h0';have hk1:k+1<=(rN d0 n0 d0).length:=by
      have:=(List.getElem?_eq_some_iff.1 h0').1;omega
     refine⟨h0',⟨fun _=>⟨by split <;>omega,rfl,fun h2=>?_,fun h2=>?_⟩,fun h2=>?_⟩,?_⟩
     ·have h3:n % max d 1=0:=by
       have:=eq_of_beq h2;generalize n % max d 1=q at this |-;omega
      have hT2:=e2 h3;have hl2:(rN d0 n0 d0).length=k+2:=by
       have:=congrArg List.length hT;rw[hT2,List.length_drop]at this;simp at this;omega
      refine⟨?_,⟨(k+1+2,true),[0,1,2],.inr (by rw[hl2]),rfl,⟨rfl,rfl,rfl⟩,by simp[DL,Fk,Ch,unp,al,c7,vA,v6]⟩,⟨(0,true),[0,1,2],.inl rfl,rfl,⟨rfl,rfl,rfl⟩,by simp[DL,Fk,Ch,unp,al,c7,vA,v6]⟩⟩;have:(rN d0 n0 d0)[k+1]? =T[0]?:=by rw[<-hT,List.getElem?_drop]
      rw[this,hT2];rfl
     ·have h3:n % max d 1≠0:=fun e=>by rw[e]at h2;simp at h2
      obtain⟨f',m1,m2,m3⟩:=e3 h3;exact⟨(k+1,f',d,n % max d 1),[0,1,2],⟨m2,by rw[hT,m1],hk1⟩,m3,⟨rfl,rfl,rfl⟩,by simp[DL,Fk,Ch,unp,al,c7,vA,v6,nth,nW,ren,wkL,GS]⟩
     ·exact absurd hn (by rw[h2];simp)
     ·exact⟨(0,false),[0,1,2],.inl rfl,rfl,⟨rfl,rfl,rfl⟩,by simp[DL,Fk,Ch,unp,al,c7,vA,v6]⟩
    ·have hn':n=0:=by simpa using hn
     subst hn';rw[OG]at hlen;simp at hlen;exact⟨by simpa using hn,(k+1,false),[0,1,2],.inr (by show k+1=_;omega),rfl,⟨rfl,rfl,rfl⟩,by simp[DL,Fk,Ch,unp,al,c7,vA,v6]⟩
  ·unfold ae Tryz.f271;simp only[go_sem,true_imp_iff,decide_eq_true_eq,Nat.reduceBEq,Nat.reduceLeDiff,Nat.reduceAdd,Nat.reduceSub,Nat.reduceMul,true_and,and_true,implies_true];rintro⟨j,b⟩ hj;cases b
   ·simp only[go_sem];exact⟨j,_,_,[0,1,2],hj,rfl,Nat.le_refl 3,by simp only[go_sem,Nat.reduceBEq,Nat.reduceLeDiff,Nat.reduceAdd,true_and,and_true];decide⟩
   ·simp only[go_sem];exact⟨j,_,_,[0,1,2],hj,rfl,Nat.le_refl 3,by simp only[go_sem,Nat.reduceBEq,Nat.reduceLeDiff,Nat.reduceAdd,true_and,and_true];decide⟩
 ·cases h
def Mo (n d:Nat):Nat:=if d=0 then n else(At d n d).getLastD d
def C83:List SV->Option Con:=pU fun n=>pU fun d=>pE (.det (0<=n/\0<=d) (SV.u (Mo n.toNat d.toNat)))
theorem U0:FnOk Tryz.prog 262 C83:=by
 have hG:ConsOk Tryz.prog (mkG [] [(268,C90)]):=ar (by simp) (by
  intro x hx;simp only[List.mem_cons,List.not_mem_nil,or_false]at hx;rcases hx with rfl;exact UY)
 refine FT false mixed ak hG (fn:=Tryz.f262) (c:=ae Tryz.f262) kr kr kr kr fun l con h hp=>?_;unfold C83 at h;obtain⟨n',l0,rfl,h0⟩:=Ar h;obtain⟨d',l1,rfl,h1⟩:=Ar h0;obtain⟨rfl,rfl⟩:=CT h1;clear h h0 h1;obtain⟨hn,hd⟩:=hp;obtain⟨n,rfl⟩:=Int.eq_ofNat_of_zero_le hn;obtain⟨d,rfl⟩:=Int.eq_ofNat_of_zero_le hd;refine⟨nbl rfl,fun id st=>bif Nat.beq id 0 then some { α:=Unit,pre:=st.h=[.cells [SV.u d],.cells [SV.u n],.cells [SV.u d]]/\lk 12 st.t=.fn 271 [] [.ptr 1 0,.ptr 2 0]/\lk 4 st.t=.ptr 0 0,post:=fun _=>True,ex:=fun _=>.normal,out:=fun _=>⟨[(4,.ptr 0 0)],[.cells [SV.u ((At d n d).getLastD d)],.dead,.dead]⟩:LCon}else none,?_,?_⟩
 ·unfold ae Tryz.f262;simp only[am,true_and,and_true];refine HF mixed ak hG (by decide) (by decide) kr kr fun st lc hC hp=>?_;simp only[go_sem,Nat.reduceBEq,Option.some.injEq]at hC;subst hC;obtain⟨t,h⟩:=st;dsimp only at hp;obtain⟨rfl,h12,h4⟩:=hp;refine⟨271,[.ptr 1 0,.ptr 2 0],rN d n d,Nat,[(4,.ptr 0 0)],fun v=>[.cells [SV.u v],.dead,.dead],fun k v=>v=((At d n d).take k).getLastD d,fun _ _=>False,d,[0,1,2],h12,rfl,Nat.le_refl _,?_,UZ n d,?_,?_,fun _ h=>h.elim,fun _ _ h=>h.elim⟩
  ·show Sub [0,1,2] 3 ⟨t,[.cells [SV.u d],.dead,.dead]⟩ ⟨[(4,.ptr 0 0)],[.cells [SV.u d],.dead,.dead]⟩;simp only[go_sem,h4,Nat.reduceBEq,Nat.reduceLeDiff,Nat.reduceAdd,true_and,and_true];decide
  ·intro k y args hk hI;unfold rN at hk;rw[List.getElem?_map,Option.map_eq_some_iff]at hk;obtain⟨x,hx,rfl⟩:=hk;refine⟨rfl,L0,_,fun l=>by simp only[am],fun l=>by simp only[am],fun _ _ q=>q,?_⟩;show exec ts _ L0 _ ⟨[(13,SV.u x),(4,SV.ptr 0 0)],[.cells [SV.u y],.dead,.dead]⟩ _;simp only[go_sem,true_imp_iff,Nat.reduceBEq,Nat.reduceLeDiff,Nat.reduceAdd,true_and,and_true];refine⟨x,[0,1,2],?_,Nat.le_refl 3,?_⟩
   ·have hlt:=(List.getElem?_eq_some_iff.1 hx).1;have hx2:=(List.getElem?_eq_some_iff.1 hx).2;show x=((At d n d).take (k+1)).getLastD d;rw[List.take_succ_eq_append_getElem hlt,hx2];simp[List.getLastD_concat]
   ·simp only[go_sem,Nat.reduceBEq,Nat.reduceLeDiff,Nat.reduceAdd,true_and,and_true];decide
  ·intro y hI;refine⟨(),[0,1,2],trivial,rfl,Nat.le_refl _,?_⟩;have hy:y=(At d n d).getLastD d:=by rw[hI,List.take_of_length_le (by simp[rN])]
   subst hy;show Sub [0,1,2] 3 ⟨[(4,.ptr 0 0)],[.cells [SV.u _],.dead,.dead]⟩ ⟨[(4,.ptr 0 0)],[.cells [SV.u _],.dead,.dead]⟩;simp only[go_sem,Nat.reduceBEq,Nat.reduceLeDiff,Nat.reduceAdd,true_and,and_true];decide
 ·unfold ae Tryz.f262;simp only[go_sem,C90,true_imp_iff,decide_eq_true_eq,Bool.false_eq_true,false_imp_iff,Nat.reduceBEq,Nat.reduceLeDiff,Nat.reduceAdd,Nat.reduceSub,Nat.reduceMul,true_and,and_true,implies_true];refine⟨fun h=>?_,fun h _ _=>?_⟩
  ·have h':d=0:=by simpa using h
   simp[Mo,h']
  ·have h':d≠0:=by simpa using h
   simp[Mo,h']
attribute [go_sem] C83
end Go.Sx
end
section
namespace Go.Sx
open Go.RowKit
inductive NilS:St->St->Prop where
 |refl (st:St):NilS st st
 |cell {st:St} {t:List (Nat×SV)} {h:List Ob} {i j:Nat} {l:List SV} (o:Ob):NilS st ⟨t,h⟩->al h i=.cells l->l[j]? =some (.v (.slice none 0 0))->((∃ k,o=.row k [])\/∃ k,o=.grid k [])->NilS st ⟨t,bA h i (.cells (l.set j (.os h.length)))++[o]⟩
 |slot {st:St} {t:List (Nat×SV)} {h:List Ob} {i:Nat} (o:Ob):NilS st ⟨t,h⟩->lk i t=.v (.slice none 0 0)->((∃ k,o=.row k [])\/∃ k,o=.grid k [])->NilS st ⟨(i,.os h.length)::t,h++[o]⟩
 |slotE {st:St} {t:List (Nat×SV)} {h:List Ob} {i:Nat} (k:Tag):NilS st ⟨t,h⟩->lk i t=.e0->NilS st ⟨(i,.os h.length)::t,h++[.row k []]⟩
section
variable {P:Program}{F:Nat->Prop}{w0:Bs}{N:Nat}
theorem EI (h:List Ob)(o:Ob):al (h++[o]) h.length=o:=by rw[qY,if_neg (by omega)];simp[al]
theorem KX {own:Own}{h:List Ob}{a:Act}{w:World}{t:List (Nat×SV)}(hr:StRel F w0 N own ⟨t,h⟩ a w)(o:Ob)(ho:(∃ k,o=.row k [])\/∃ k,o=.grid k []):
  ∃ own',StRel F w0 N own' ⟨t,h++[o]⟩ a w/\(∀ id hd,own id=some hd->own' id=some hd)/\own' h.length=some { v:=.slice none 0 0}:=by
 let own':Own:=fun id=>if id=h.length then some { v:=.slice none 0 0}else own id
 have hsub:∀ id hd,own id=some hd->own' id=some hd:=fun id hd e=>by
  have:id≠h.length:=by have:=hr.hp.dom id hd e;simp only at this;omega
  simp only[own',if_neg this];exact e
 have hinv:∀ id hd b,own' id=some hd->b∈hd.bs->own id=some hd:=fun id hd b e hb=>by
  by_cases hi:id=h.length
  ·simp only[own',if_pos hi,Option.some.injEq]at e;subst e;cases hb
  ·simpa only[own',if_neg hi]using e
 have hc:Carries F own w F own' w:=⟨fun id hd e=>⟨hd,hsub id hd e,.refl _⟩,fun b _ hn=>⟨by
  rintro (hf| ⟨id,hd,e,hb⟩)
  ·exact hn (.inl hf)
  ·exact hn (.inr ⟨id,hd,hinv id hd b e hb,hb⟩),rfl⟩⟩
 refine⟨own',⟨hr.size,hr.defers,⟨fun id hd e=>?_,hr.hp.foreign,fun id hd b e hb=>hr.hp.apart id hd b (hinv id hd b e hb) hb,fun i j hi hj b e1 e2 b1 b2=>hr.hp.inj i j hi hj b (hinv i hi b e1 b1) (hinv j hj b e2 b2) b1 b2,fun id hd b e hb=>hr.hp.lt id hd b (hinv id hd b e hb) hb,fun id hd=>?_⟩,
  ⟨fun id hd e=>?_,fun id hd b e hb=>hr.fr.base id hd b (hinv id hd b e hb) hb,hr.fr.os,hr.fr.tape,hr.fr.output,hr.fr.size,hr.fr.block⟩,fun t=>(hr.slots t).carry hc⟩,hsub,by simp[own']⟩
 ·simp only[List.length_append,List.length_cons,List.length_nil];by_cases hi:id=h.length
  ·omega
  ·simp only[own',if_neg hi]at e;have:=hr.hp.dom id hd e;simp only at this;omega
 ·simp only at hd |-;by_cases hi:id<h.length
  ·rw[qY,if_pos hi]at hd |-;obtain⟨hd',e1,e2⟩:=hr.hp.obs id hd;exact⟨hd',hsub id hd' e1,e2.carry hc (Nat.le_refl _) fun _ _=>rfl⟩
  ·by_cases hi2:id=h.length
   ·subst hi2;rw[EI];refine⟨_,by simp[own'];rfl,?_⟩;rcases ho with⟨k,rfl⟩ | ⟨k,rfl⟩
    ·exact .inl ⟨none,rfl,rfl,rfl⟩
    ·exact .inl ⟨rfl,rfl,rfl,rfl⟩
   ·rw[qX (by simp;omega)]at hd;cases hd
 ·obtain⟨hd',e1,e2⟩:=hr.fr.ids id hd e;exact⟨hd',hsub id hd' e1,e2⟩
theorem OJ {own:Own}{h:List Ob}{a:Act}{w:World}{t:List (Nat×SV)}(hr:StRel F w0 N own ⟨t,h⟩ a w)(k:Tag)(ad:Option Addr):
  ∃ own',StRel F w0 N own' ⟨t,h++[.row k []]⟩ a w/\(∀ id hd,own id=some hd->own' id=some hd)/\own' h.length=some { v:=.slice ad 0 0}:=by
 let own':Own:=fun id=>if id=h.length then some { v:=.slice ad 0 0}else own id
 have hsub:∀ id hd,own id=some hd->own' id=some hd:=fun id hd e=>by
  have:id≠h.length:=by have:=hr.hp.dom id hd e;simp only at this;omega
  simp only[own',if_neg this];exact e
 have hinv:∀ id hd b,own' id=some hd->b∈hd.bs->own id=some hd:=fun id hd b e hb=>by
  by_cases hi:id=h.length
  ·simp only[own',if_pos hi,Option.some.injEq]at e;subst e;cases hb
  ·simpa only[own',if_neg hi]using e
 have hc:Carries F own w F own' w:=⟨fun id hd e=>⟨hd,hsub id hd e,.refl _⟩,fun b _ hn=>⟨by
  rintro (hf| ⟨id,hd,e,hb⟩)
  ·exact hn (.inl hf)
  ·exact hn (.inr ⟨id,hd,hinv id hd b e hb,hb⟩),rfl⟩⟩
 refine⟨own',⟨hr.size,hr.defers,⟨fun id hd e=>?_,hr.hp.foreign,fun id hd b e hb=>hr.hp.apart id hd b (hinv id hd b e hb) hb,fun i j hi hj b e1 e2 b1 b2=>hr.hp.inj i j hi hj b (hinv i hi b e1 b1) (hinv j hj b e2 b2) b1 b2,fun id hd b e hb=>hr.hp.lt id hd b (hinv id hd b e hb) hb,fun id hd=>?_⟩,
  ⟨fun id hd e=>?_,fun id hd b e hb=>hr.fr.base id hd b (hinv id hd b e hb) hb,hr.fr.os,hr.fr.tape,hr.fr.output,hr.fr.size,hr.fr.block⟩,fun t=>(hr.slots t).carry hc⟩,hsub,by simp[own']⟩
 ·simp only[List.length_append,List.length_cons,List.length_nil];by_cases hi:id=h.length
  ·omega
  ·simp only[own',if_neg hi]at e;have:=hr.hp.dom id hd e;simp only at this;omega
 ·simp only at hd |-;by_cases hi:id<h.length
  ·rw[qY,if_pos hi]at hd |-;obtain⟨hd',e1,e2⟩:=hr.hp.obs id hd;exact⟨hd',hsub id hd' e1,e2.carry hc (Nat.le_refl _) fun _ _=>rfl⟩
  ·by_cases hi2:id=h.length
   ·subst hi2;rw[EI];refine⟨_,by simp[own'];rfl,?_⟩;exact .inl ⟨ad,rfl,rfl,rfl⟩
   ·rw[qX (by simp;omega)]at hd;cases hd
 ·obtain⟨hd',e1,e2⟩:=hr.fr.ids id hd e;exact⟨hd',hsub id hd' e1,e2⟩
theorem NilS.rel {st st':St}(hn:NilS st st'){own:Own}{a:Act}{w:World}(hr:StRel F w0 N own st a w):∃ own',StRel F w0 N own' st' a w:=by
 induction hn with
 |refl=>exact⟨own,hr⟩
 | @slot t h i o _ hl ho ih=>
  obtain⟨own1,h1⟩:=ih;obtain⟨own2,h2,h3,h4⟩:=KX h1 o ho;refine⟨own2,h2.size,h2.defers,h2.hp,h2.fr,fun u=>?_⟩;rw[oN];split
  ·rename_i e;subst e;have:=h1.slots i;rw[hl]at this;rw[bG this];exact .os (hd:= { v:=.slice none 0 0}) h4 rfl
  ·exact h2.slots u
 | @slotE t h i k _ hl ih=>
  obtain⟨own1,h1⟩:=ih;have hs:=h1.slots i;rw[hl]at hs;generalize hv:a.tmps.getD i undef=v at hs;cases hs with
  | @e0 ad=>
   obtain⟨own2,h2,h3,h4⟩:=OJ h1 k ad;refine⟨own2,h2.size,h2.defers,h2.hp,h2.fr,fun u=>?_⟩;rw[oN];split
   ·rename_i e;subst e;rw[hv];exact .os (hd:= { v:=.slice ad 0 0}) h4 rfl
   ·exact h2.slots u
 | @cell t h i j l o _ hc hl ho ih=>
  obtain⟨own1,h1⟩:=ih;obtain⟨own2,h2,h3,h4⟩:=KX h1 o ho;have hlt:i<h.length:=by
   rcases Nat.lt_or_ge i h.length with h'|h'
   ·exact h'
   ·rw[qX h']at hc;cases hc
  have hlen:(bA h i (.cells (l.set j (.os h.length)))).length=h.length:=by rw[bV,if_pos hlt]
  refine⟨own2,h2.size,h2.defers,⟨fun id hd e=>?_,h2.hp.foreign,h2.hp.apart,h2.hp.inj,h2.hp.lt,fun id hd=>?_⟩,h2.fr,h2.slots⟩
  ·have:=h2.hp.dom id hd e;simp only[List.length_append]at this |-;rw[hlen];exact this
  ·simp only at hd |-;have hob:=h2.hp.obs id;simp only at hob;by_cases hi:id<h.length
   ·rw[qY,if_pos (by rw[hlen];exact hi)]at hd |-;rw[qY,if_pos hi]at hob;rw[c9]at hd |-;by_cases hii:i=id
    ·subst hii;rw[if_pos rfl]at hd |-;rw[hc]at hob;obtain⟨hd',e1,b,cs,ty,m1,m2,m3,m4,m5⟩:=hob rfl;refine⟨hd',e1,b,cs,ty,m1,m2,m3,by simpa using m4,fun j' s hs=>?_⟩;rw[List.getElem?_set]at hs;by_cases hj:j=j'
     ·subst hj;rw[if_pos rfl]at hs;split at hs
      ·cases hs;have:=m5 j _ hl;rw[bG this];exact .os (hd:= { v:=.slice none 0 0}) h4 rfl
      ·cases hs
     ·rw[if_neg hj]at hs;exact m5 j' s hs
    ·rw[if_neg hii]at hd |-;exact hob hd
   ·rw[qY,if_neg (by rw[hlen];exact hi),hlen]at hd |-;rw[qY,if_neg hi]at hob;exact hob hd
end
section
variable {P:Program}{F:Nat->Prop}{w0:Bs}{ro:Option Nat}{nd:Nat}{ts:Tis}{G:Cons}{L:uH}{N:Nat}
theorem wP {ts:Tis}{G:Cons}{ro:Option Nat}{N:Nat}(hm:P.follows .mixedOrders=true)(hts:ts.ok P)(hG:ConsOk P G){id:Nat}{c:Code}(hc:cp N c=true){C:St->Option LCon}
  (h:∀ st lc,C st=some lc->lc.pre->∃ (σ:Type) (D:σ->St) (I:σ->Prop) (m:σ->Nat) (x0:σ) (stN:St) (js:List Nat),I x0/\NilS st stN/\st.h.length<=(D x0).h.length/\Sub js st.h.length stN (D x0)/\
   ∀ x,I x->∃ L Qx,am P ro N L c/\(∀ e st',Qx e st'->vC D I m st.h.length x id (fun e st'=>∃ r js,lc.post r/\lc.ex r=e/\st.h.length<=(lc.out r).h.length/\Sub js st.h.length st' (lc.out r)) e st')/\exec ts G L c (D x) Qx):mL P ro N id (.loop c) C:=by
 intro nd F w0 st lc hC hpre own a w hr;obtain⟨σ,D,I,m,x0,stN,js,h1,hN,h2,h3,h4⟩:=h st lc hC hpre;obtain⟨ownN,hrN⟩:=hN.rel hr;refine wpIn_mono (EC hm hts hG hc D I m st.h.length hr.base_lt _ h4 x0 h1 _ a w (hrN.sub h3 hr.base_lt h2)) ?_;intro e a' w' hq;have key:∀ ex F1 own' st',StRel F1 w0 N own' st' a' w'->(∃ r js,lc.post r/\lc.ex r=ex/\st.h.length<=(lc.out r).h.length/\Sub js st.h.length st' (lc.out r))->∃ own2 st2,StRel F1 w0 N own2 st2 a' w'/\∃ r,lc.post r/\ex=lc.ex r/\st2=lc.out r:=by
  rintro ex F1 own' st' hst ⟨r,js,q1,q2,q3,q4⟩;exact⟨_,_,hst.sub q4 hr.base_lt q3,r,q1,q2.symm,rfl⟩
 cases e with
 |normal=>obtain⟨F1,own',st',h0,k1,k2⟩:=hq;obtain⟨own2,st2,q1,q2⟩:=key _ F1 own' st' k1 k2;exact⟨F1,own2,st2,h0,q1,q2⟩
 |exit j=>obtain⟨F1,own',st',h0,k1,k2⟩:=hq;obtain⟨own2,st2,q1,q2⟩:=key _ F1 own' st' k1 k2;exact⟨F1,own2,st2,h0,q1,q2⟩
 |ret=>obtain⟨F1,own',st',h0,k1,k2⟩:=hq;obtain⟨own2,st2,q1,q2⟩:=key _ F1 own' st' k1 k2;exact⟨F1,own2,st2,h0,q1,q2⟩
 |panic ch=>
  obtain⟨x,F1,own',st',h0,k1,k2,k3⟩:=hq;obtain⟨own2,st2,q1,q2⟩:=key _ F1 own' st' k1 k2;exact⟨x,F1,own2,st2,h0,q1,q2,k3⟩
 |_=>exact hq.elim
end
section
variable {P:Program}{ρ σ:Type}
def jP (st2:St)(n0:Nat)(st:St):Prop:= ∃ js,n0<=st2.h.length/\Sub js n0 st st2
theorem FX {st2 st:St}{n0:Nat}(js:List Nat)(h1:n0<=st2.h.length)(h2:Sub js n0 st st2):jP st2 n0 st:=⟨js,h1,h2⟩
def uU (D:Nat->σ->St)(n0 k:Nat)(st:St):ρ⊕σ->Prop
 | .inl _=>False
 | .inr s'=>jP (D (k+1) s') n0 st
def ou (exE:ρ->Ex)(outE:ρ->St)(n0:Nat)(e:Ex)(st:St):ρ⊕σ->Prop
 | .inl x=>exE x=e/\jP (outE x) n0 st
 | .inr _=>False
def cE (step:Nat->σ->ρ⊕σ)(n:Nat)(exE:ρ->Ex)(outE:ρ->St)(outN:σ->St)(D:Nat->σ->St)(n0 id k:Nat)(s:σ):Ex->St->Prop
 | .normal,st=>k<n/\uU D n0 k st (step k s)
 | .exit j,st=>bif Nat.beq j id then(n<=k->jP (outN s) n0 st)/\(k<n->ou exE outE n0 .normal st (step k s))else k<n/\ou exE outE n0 (.exit j) st (step k s)
 | .ret,st=>k<n/\ou exE outE n0 .ret st (step k s)
 | .pan x,st=>k<n/\ou exE outE n0 (.pan x) st (step k s)
variable {step:Nat->σ->ρ⊕σ}{n n0 id k j:Nat}{exE:ρ->Ex}{outE:ρ->St}{outN:σ->St}{D:Nat->σ->St}{s s':σ}{st:St}{x:Value}{e:Ex}{y:ρ}
@[go_sem] theorem Xa:uU (ρ:=ρ) D n0 k st (.inr s')=jP (D (k+1) s') n0 st:=(rfl)
@[go_sem] theorem Y0:ou (σ:=σ) exE outE n0 e st (.inl y)=(exE y=e/\jP (outE y) n0 st):=(rfl)
@[go_sem] theorem Xb:cE step n exE outE outN D n0 id k s .normal st=(k<n/\uU D n0 k st (step k s)):=(rfl)
@[go_sem] theorem abd:cE step n exE outE outN D n0 id k s (.exit j) st=bif Nat.beq j id then(n<=k->jP (outN s) n0 st)/\(k<n->ou exE outE n0 .normal st (step k s))else k<n/\ou exE outE n0 (.exit j) st (step k s):=(rfl)
@[go_sem] theorem ach:cE step n exE outE outN D n0 id k s .ret st=(k<n/\ou exE outE n0 .ret st (step k s)):=(rfl)
@[go_sem] theorem aci:cE step n exE outE outN D n0 id k s (.pan x) st=(k<n/\ou exE outE n0 (.pan x) st (step k s)):=(rfl)
@[congr] theorem Tb {r r':ρ⊕σ}(h:r=r'):uU D n0 k st r=uU D n0 k st r':=by rw[h]
@[congr] theorem Y1 {st st':St}{e e':Ex}(h:st=st')(he:e=e'):cE step n exE outE outN D n0 id k s e st=cE step n exE outE outN D n0 id k s e' st':=by rw[h,he]
theorem Mq {ts:Tis}{G:Cons}{ro:Option Nat}{N:Nat}(hm:P.follows .mixedOrders=true)(hts:ts.ok P)(hG:ConsOk P G){id:Nat}{c:Code}(hc:cp N c=true){C:St->Option LCon}
  (h:∀ st lc,C st=some lc->lc.pre->∃ (ρ σ:Type) (pre:Prop) (step:Nat->σ->ρ⊕σ) (p:Nat->σ->Prop) (n:Nat) (s0:σ) (exE:ρ->Ex) (outE:ρ->St) (outN:σ->St) (D:Nat->σ->St) (stN:St) (js:List Nat),
   lc=LC pre (an step n 0 s0) exE outE outN/\okI step p n 0 s0/\NilS st stN/\st.h.length<=(D 0 s0).h.length/\Sub js st.h.length stN (D 0 s0)/\
   ∀ k s,k<=n->(k<n->p k s)->∃ L,am P ro N L c/\exec ts G L c (D k s) (cE step n exE outE outN D st.h.length id k s)):mL P ro N id (.loop c) C:=by
 refine wP hm hts hG hc fun st lc hC hp=>?_;obtain⟨ρ,σ,pre,step,p,n,s0,exE,outE,outN,D,stN,js,rfl,h1,hN,h2,h3,h4⟩:=h st lc hC hp;refine⟨Nat×σ,fun x=>D x.1 x.2,fun x=>x.1<=n/\okI step p (n - x.1) x.1 x.2/\an step (n - x.1) x.1 x.2=an step n 0 s0,fun x=>n - x.1,(0,s0),stN,js,⟨Nat.zero_le _,by simpa using h1,by simp⟩,hN,h2,h3,?_⟩;rintro⟨k,s⟩ ⟨hk,hJ,hrun⟩;simp only at hk hJ hrun;obtain⟨L,hl,hex⟩:=h4 k s hk (fun hlt=>by
  rw[show n - k=(n - k - 1)+1 by omega]at hJ;exact hJ.1)
 refine⟨L,_,hl,?_,hex⟩;have hfin:∀ e st',k<n->ou exE outE st.h.length e st' (step k s)->∃ r js,(LC pre (an step n 0 s0) exE outE outN).post r/\(LC pre (an step n 0 s0) exE outE outN).ex r=e/\st.h.length<=((LC pre (an step n 0 s0) exE outE outN).out r).h.length/\Sub js st.h.length st' ((LC pre (an step n 0 s0) exE outE outN).out r):=by
  intro e st' hlt q;cases hs:step k s with
  |inr s'=>rw[hs]at q;exact q.elim
  |inl x=>
   rw[hs]at q;obtain⟨q2,js,q3,q4⟩:=q;rw[show n - k=(n - k - 1)+1 by omega]at hrun;simp only[an,hs]at hrun;exact⟨.inl x,js,hrun,q2,q3,q4⟩
 intro e st' hq;cases e with
 |normal=>
  obtain⟨q1,q2⟩:=hq;cases hs:step k s with
  |inl x=>rw[hs]at q2;exact q2.elim
  |inr s'=>
   rw[hs]at q2;obtain⟨js,q3,q4⟩:=q2;rw[show n - k=(n - (k+1))+1 by omega]at hrun hJ;simp only[an,hs]at hrun;exact⟨(k+1,s'),js,⟨q1,hJ.2 s' hs,hrun⟩,by simp only;omega,q3,q4⟩
 |exit j=>
  have hq':(bif Nat.beq j id then(n<=k->jP (outN s) st.h.length st')/\(k<n->ou exE outE st.h.length .normal st' (step k s))else k<n/\ou exE outE st.h.length (.exit j) st' (step k s)):=hq;show bif Nat.beq j id then _ else _;cases hb:Nat.beq j id with
  |true=>
   rw[hb]at hq';simp only[cond_true]at hq' |-;by_cases hlt:k<n
   ·exact hfin _ _ hlt (hq'.2 hlt)
   ·obtain⟨js,q3,q4⟩:=hq'.1 (by omega);have hkn:k=n:=by omega
    subst hkn;simp only[Nat.sub_self,an]at hrun;exact⟨.inr s,js,hrun,rfl,q3,q4⟩
  |false=>rw[hb]at hq';exact hfin _ _ hq'.1 hq'.2
 |ret=>exact hfin _ _ hq.1 hq.2
 |pan x=>exact hfin _ _ hq.1 hq.2
end
def jQ (p:Prop)(S:SV)(H:List Ob):HCon:= { α:=Unit,pre:=p,post:=fun _=>True,res:=fun _=>.ret S H}
def Jy (n0:Nat)(S:SV)(H:List Ob)(h:List Ob):Option SV->Prop
 |some s=>jP ⟨[(0,S)],H⟩ n0 ⟨[(0,s)],h⟩
 |none=>False
def OK (n0:Nat)(rs:List ResultVar)(ts:Tis)(S:SV)(H:List Ob):Ex->St->Prop
 | .exit _,_=>False
 | .normal,st=>Jy n0 S H st.h (lH (km ts st rs))
 | .ret,st=>Jy n0 S H st.h (lH (km ts st rs))
 | .pan _,_=>False
section
variable {P:Program}{ts:Tis}{G:Cons}{n0:Nat}{S s:SV}{H h:List Ob}{rs:List ResultVar}{st:St}{x:Value}{j:Nat}
@[go_sem] theorem Xc:Jy n0 S H h (some s)=jP ⟨[(0,S)],H⟩ n0 ⟨[(0,s)],h⟩:=(rfl)
@[go_sem] theorem RP:OK n0 rs ts S H .normal st=Jy n0 S H st.h (lH (km ts st rs)):=(rfl)
@[go_sem] theorem Xd:OK n0 rs ts S H .ret st=Jy n0 S H st.h (lH (km ts st rs)):=(rfl)
@[go_sem high] theorem U1 {p:Prop}{ids:List Nat}{d:Option Nat}{K:St->Prop}{Z:Value->St->Prop}:y5 ids d st K Z (some (jQ p S H))=(p/\IK ids d st K Z (.ret S H)):=by
 show(p/\∀ r:Unit,True->IK ids d st K Z (.ret S H))=_;simp
def hCR (t:Tag)(k:List t.T->Option HCon):List Ob->Option HCon
 | [.cells [.os 1],.row k' l] =>if h:k'=t then k (h▸l)else none
 |_=>none
def pXR {α:Type 1}(t:Tag)(k:List t.T->List SV->Option α):List SV->Option α
 | .ep [.rs k' l] 0::r=>EF t k r k' l
 |_=>none
@[go_sem] theorem acj {α:Type 1}{t:Tag}{k:List t.T->List SV->Option α}{l:List t.T}{r:List SV}:pXR t k (.ep [.rs t l] 0::r)=k l r:=by simp[pXR,EF]
theorem RQ {α:Type 1}{t:Tag}{k:List t.T->List SV->Option α}{l:List SV}{c:α}(h:pXR t k l=some c):∃ x r,l=.ep [.rs t x] 0::r/\k x r=some c:=by
 unfold pXR at h;split at h
 ·rename_i k' l' r;unfold EF at h;split at h
  ·rename_i e;subst e;exact⟨_,_,rfl,h⟩
  ·cases h
 ·cases h
theorem py (hm:P.follows .mixedOrders=true) (hts:ts.ok P) (hG:ConsOk P G) {f:FuncId} {fn:Func} {c:Code} (hf:P.funcs[f]? =some fn) (hb:fn.body=some c) (hname:(fn.name== "runtime.NumGoroutine")=false)
  (hc:cp fn.ntmps c=true) {C:List SV->List Ob->Option HCon}
  (h:∀ l o con,C l o=some con->∃ p S H,con=jQ p S H/\(p->l.length<=fn.ntmps/\∃ L,am P none fn.ntmps L c/\exec ts G L c ⟨mG 0 l,o⟩ (OK o.length fn.results.toList ts S H))):FnOkO P f C:=by
 refine CS hm hts hG hf hb hname hc fun l o con hC hp=>?_;obtain⟨p,S,H,rfl,h2⟩:=h l o con hC;obtain⟨h3,L,h4,h5⟩:=h2 hp;refine⟨h3,L,_,h4,fun e st hq=>?_,h5⟩;cases e with
 |normal=>
  change Jy _ _ _ _ _ at hq;show y6 _ _ _ _;cases hs:lH (km ts st fn.results.toList)with
  |none=>rw[hs]at hq;exact hq.elim
  |some s=>rw[hs]at hq;obtain⟨js,q1,q2⟩:=hq;exact⟨(),S,H,js,trivial,rfl,q1,q2⟩
 |ret=>
  change Jy _ _ _ _ _ at hq;show y6 _ _ _ _;cases hs:lH (km ts st fn.results.toList)with
  |none=>rw[hs]at hq;exact hq.elim
  |some s=>rw[hs]at hq;obtain⟨js,q1,q2⟩:=hq;exact⟨(),S,H,js,trivial,rfl,q1,q2⟩
 |exit j=>exact hq.elim
 |pan x=>exact hq.elim
end
end Go.Sx
end
section
namespace Go.Sx
attribute [go_sem] true_imp_iff false_imp_iff Bool.false_eq_true Int.toNat_natCast Int.toNat_zero true_and and_true and_self implies_true forall_const
theorem cl {p:Prop}(h:p:=by(first|done|(repeat' (first|with_reducible refine And.intro ?_ ?_|((with_reducible show _≠_);first|assumption|omega|(simp_all [et,fN];done) |grind) |with_reducible intro _)) <;>(first|done|with_reducible exact Empty.elim ‹Empty› |with_reducible assumption|rfl|omega|assumption|(simp only[*,cond_true,cond_false,Bool.not_true,Bool.not_false,go_sem,Nat.reduceBEq,Nat.reduceLeDiff,Nat.reduceAdd,Nat.reduceSub,Nat.reduceMul,Int.reduceLE,Int.reduceLT,Int.reduceToNat,Int.reduceNeg,reduceCtorEq];done) |(simp only[*,cond_true,cond_false,Bool.not_true,Bool.not_false,go_sem,Nat.reduceBEq,Nat.reduceLeDiff,Nat.reduceAdd,Nat.reduceSub,Nat.reduceMul,Int.reduceLE,Int.reduceLT,Int.reduceToNat,Int.reduceNeg,reduceCtorEq];(repeat' (first|with_reducible refine And.intro ?_ ?_|((with_reducible show _≠_);first|assumption|omega|(simp_all [et,fN];done) |grind) |with_reducible intro _)) <;>(first|done|assumption|rfl|omega|(simp_all [et,fN];done))) |(simp_all [okI,et,fN];done) |grind))):p:=h
theorem cl2 {p:Prop}(h:p:=by(first|done|(repeat' (first|with_reducible refine And.intro ?_ ?_|((with_reducible show _≠_);first|assumption|omega|(simp_all [et,fN];done) |grind) |with_reducible intro _)) <;>(first|done|with_reducible exact Empty.elim ‹Empty› |with_reducible assumption|rfl|omega|assumption|(simp only[*,go_sem,Nat.reduceBEq,Nat.reduceLeDiff,Nat.reduceAdd,Nat.reduceSub,Nat.reduceMul,Int.reduceLE,Int.reduceLT,Int.reduceToNat,Int.reduceNeg,reduceCtorEq];done) |(simp_all [et,fN];done)))):p:=h
inductive JL:List Nat->Prop
 |mk (l:List Nat):JL l
theorem jl (l:List Nat):JL l:=.mk l
theorem fk {st2 st:St}{n0:Nat}{js:List Nat}(_:JL js)(h1:n0<=st2.h.length:=by(first|(show _<=_;decide) |(simp only[*,go_sem,Nat.reduceBEq,Nat.reduceLeDiff,Nat.reduceAdd,Nat.reduceSub,Nat.reduceMul,Int.reduceLE,Int.reduceLT,Int.reduceToNat,Int.reduceNeg,reduceCtorEq];done) |(simp only[*,go_sem,Nat.reduceBEq,Nat.reduceLeDiff,Nat.reduceAdd,Nat.reduceSub,Nat.reduceMul,Int.reduceLE,Int.reduceLT,Int.reduceToNat,Int.reduceNeg,reduceCtorEq];(repeat' (first|with_reducible refine And.intro ?_ ?_|((with_reducible show _≠_);first|assumption|omega|(simp_all [et,fN];done) |grind) |with_reducible intro _)) <;>(first|rfl|decide|assumption|omega|(simp_all [et,fN];done)))))(h2:Sub js n0 st st2:=by(first|(show _<=_;decide) |(simp only[*,go_sem,Nat.reduceBEq,Nat.reduceLeDiff,Nat.reduceAdd,Nat.reduceSub,Nat.reduceMul,Int.reduceLE,Int.reduceLT,Int.reduceToNat,Int.reduceNeg,reduceCtorEq];done) |(simp only[*,go_sem,Nat.reduceBEq,Nat.reduceLeDiff,Nat.reduceAdd,Nat.reduceSub,Nat.reduceMul,Int.reduceLE,Int.reduceLT,Int.reduceToNat,Int.reduceNeg,reduceCtorEq];(repeat' (first|with_reducible refine And.intro ?_ ?_|((with_reducible show _≠_);first|assumption|omega|(simp_all [et,fN];done) |grind) |with_reducible intro _)) <;>(first|rfl|decide|assumption|omega|(simp_all [et,fN];done))))):jP st2 n0 st:=FX js h1 h2
theorem fk2 {st2 st:St}{n0:Nat}{js:List Nat}(_:JL js)(h1:n0<=st2.h.length:=by(first|(show _<=_;decide) |(simp only[go_sem,Nat.reduceBEq,Nat.reduceLeDiff,Nat.reduceAdd,Nat.reduceSub,Nat.reduceMul,Int.reduceLE,Int.reduceLT,Int.reduceToNat,Int.reduceNeg,reduceCtorEq];(repeat' (first|with_reducible refine And.intro ?_ ?_|((with_reducible show _≠_);first|assumption|omega|(simp_all [et,fN];done) |grind) |with_reducible intro _)) <;>(first|rfl|decide|assumption|omega|(simp_all [et,fN];done)))))(h2:Sub js n0 st st2:=by(first|(show _<=_;decide) |(simp only[go_sem,Nat.reduceBEq,Nat.reduceLeDiff,Nat.reduceAdd,Nat.reduceSub,Nat.reduceMul,Int.reduceLE,Int.reduceLT,Int.reduceToNat,Int.reduceNeg,reduceCtorEq];(repeat' (first|with_reducible refine And.intro ?_ ?_|((with_reducible show _≠_);first|assumption|omega|(simp_all [et,fN];done) |grind) |with_reducible intro _)) <;>(first|rfl|decide|assumption|omega|(simp_all [et,fN];done))))):jP st2 n0 st:=FX js h1 h2
theorem cg0 {α:Type _}{p:α->Prop}:∀ x∈([]:List α),p x:=fun _ h=>by cases h
theorem cgc {α:Type _}{p:α->Prop}{a:α}{l:List α}(h:p a)(t:∀ x∈l,p x):∀ x∈a::l,p x:=fun x hx=>by
 rcases List.mem_cons.1 hx with rfl|hx
 ·exact h
 ·exact t x hx
attribute [go_sem] if_true
end Go.Sx
end
section
namespace Go.Sx
open Go.RowKit
open IntKind (i64)
section
variable {P:Program}
end
def okL {ρ σ τ:Type}(step:τ->σ->ρ⊕σ)(p:τ->σ->Prop):List τ->σ->Prop
 | [],_=>True
 |x::l,s=>p x s/\∀ s',step x s=.inr s'->okL step p l s'
theorem FY {ρ σ τ:Type}{step:τ->σ->ρ⊕σ}{p:τ->σ->Prop}:∀ (l:List τ) (s:σ),(∀ x∈l,∀ s,p x s)->okL step p l s
 | [],_,_=>trivial
 |x::l,s,h=>⟨h x (by simp) s,fun s' _=>FY l s' fun y hy=>h y (by simp[hy])⟩
section
variable {ρ σ τ:Type}
def rgN (T:List (Nat×SV))(H:σ->List Ob)(n0:Nat)(st:St):ρ⊕σ->Prop
 | .inl _=>False
 | .inr s'=>jP ⟨T,H s'⟩ n0 ⟨T,st.h⟩
def rgX (exE:ρ->Ex)(T:List (Nat×SV))(Hy:ρ->List Ob)(n0:Nat)(e:Ex)(st:St):ρ⊕σ->Prop
 | .inl y=>exE y=e/\jP ⟨T,Hy y⟩ n0 ⟨T,st.h⟩
 | .inr _=>False
def rgQ (step:τ->σ->ρ⊕σ)(exE:ρ->Ex)(T:List (Nat×SV))(H:σ->List Ob)(Hy:ρ->List Ob)(n0 id:Nat)(x:τ)(s:σ):Ex->St->Prop
 | .normal,st=>rgN T H n0 st (step x s)
 | .exit j,st=>rgX exE T Hy n0 (bif Nat.beq j id then .normal else .exit j) st (step x s)
 | .ret,st=>rgX exE T Hy n0 .ret st (step x s)
 | .pan _,_=>False
variable {step:τ->σ->ρ⊕σ}{exE:ρ->Ex}{T:List (Nat×SV)}{H:σ->List Ob}{Hy:ρ->List Ob}{n0 id j:Nat}{x:τ}{s s':σ}{y:ρ}{st:St}{e:Ex}
@[go_sem] theorem abe:rgN (ρ:=ρ) T H n0 st (.inr s')=jP ⟨T,H s'⟩ n0 ⟨T,st.h⟩:=(rfl)
@[go_sem] theorem abf:rgX (σ:=σ) exE T Hy n0 e st (.inl y)=(exE y=e/\jP ⟨T,Hy y⟩ n0 ⟨T,st.h⟩):=(rfl)
@[go_sem] theorem U2:rgQ step exE T H Hy n0 id x s .normal st=rgN T H n0 st (step x s):=(rfl)
@[go_sem] theorem abg:rgQ step exE T H Hy n0 id x s .ret st=rgX exE T Hy n0 .ret st (step x s):=(rfl)
@[go_sem] theorem Y2:rgQ step exE T H Hy n0 id x s (.exit j) st=rgX exE T Hy n0 (bif Nat.beq j id then .normal else .exit j) st (step x s):=(rfl)
@[congr] theorem Xe {r r':ρ⊕σ}(h:r=r'):rgN T H n0 st r=rgN T H n0 st r':=by rw[h]
@[congr] theorem Xf {r r':ρ⊕σ}{e e':Ex}(h:r=r')(he:e=e'):rgX exE T Hy n0 e st r=rgX exE T Hy n0 e' st r':=by rw[h,he]
end
section
variable {P:Program}{ts:Tis}{G:Cons}{N:Nat}
theorem xz (hm:P.follows .mixedOrders=true)(hts:ts.ok P)(hG:ConsOk P G){id:Nat}{g:Operand}{ps:Array Tmp}{assign body:Code}{C:St->Option LCon}
  (hpn:ps.toList.Nodup) (hpN:∀ p∈ps.toList,p<N) (hca:cp N assign=true) (hcb:cp N body=true)
  (h:∀ st lc,C st=some lc->lc.pre->∃ (f:FuncId) (caps:List SV) (τ ρ σ:Type) (l:List τ) (mk:τ->List SV) (step:τ->σ->ρ⊕σ) (p:τ->σ->Prop) (pre:Prop) (s0:σ) (exE:ρ->Ex) (outE:ρ->St) (outN:σ->St) (T:List (Nat×SV)) (H:σ->List Ob) (Hy:ρ->List Ob) (js:List Nat),
   raw st.t g=.fn f [] caps/\lc=LC pre (jO step l s0) exE outE outN/\okL step p l s0/\st.h.length<=(H s0).length/\Sub js st.h.length ⟨st.t,v7 (od st caps) st.h⟩ ⟨T,H s0⟩/\
   FV P f (fun y=>y::caps.map (ren (Jw (od st caps)) 3)) (HE (od st caps) st.h) (l.map mk)/\
   (∀ x s,p x s->(mk x).length=ps.size/\∃ L,(∀ l,am P (some l) N L assign)/\(∀ l,am P (some l) N L body)/\exec ts G L assign ⟨psT ps.toList (mk x)++T,H s⟩ (fun e st1=>e=.normal/\exec ts G L body st1 (rgQ step exE T H Hy st.h.length id x s)))/\
   (∀ s,jP (outN s) st.h.length ⟨T,H s⟩)/\∀ y,jP (outE y) st.h.length ⟨T,Hy y⟩):mL P none N id (.rangeFunc g ps assign body) C:=by
 refine HF hm hts hG hpn hpN hca hcb fun st lc hC hp=>?_;obtain⟨f,caps,τ,ρ,σ,l,mk,step,p,pre,s0,exE,outE,outN,T,H,Hy,js,h1,rfl,h2,h3,h4,h5,h6,h7,h8⟩:=h st lc hC hp;refine⟨f,caps,l.map mk,σ⊕ρ,T,fun z=>match z with| .inl s=>H s| .inr y=>Hy y,fun k z=>match z with| .inl s=>jO step (l.drop k) s=jO step l s0/\okL step p (l.drop k) s| .inr _=>False,
  fun e z=>match z with| .inl _=>False| .inr y=>jO step l s0=.inl y/\(match e with| .ret=>exE y=.ret| .exit j=>exE y=(bif Nat.beq j id then .normal else .exit j) |_=>False),.inl s0,js,h1,⟨rfl,h2⟩,h3,h4,h5,?_,?_,?_,?_⟩
 ·rintro k z args hk hI;cases z with
  |inr y=>exact hI.elim
  |inl s=>
   obtain⟨hrun,hok⟩:=hI;rw[List.getElem?_map,Option.map_eq_some_iff]at hk;obtain⟨x,hx,rfl⟩:=hk;have hlt:=(List.getElem?_eq_some_iff.1 hx).1;have hd:l.drop k=x::l.drop (k+1):=by
    rw[List.drop_eq_getElem_cons hlt];congr 1;exact(List.getElem?_eq_some_iff.1 hx).2
   rw[hd]at hrun hok;obtain⟨hl,L,hla,hlb,hex⟩:=h6 x s hok.1;refine⟨hl,L,_,hla,hlb,?_,hex⟩;intro e st' hq;have fin:∀ e',rgX exE T Hy st.h.length e' st' (step x s)->∃ y js,exE y=e'/\jO step l s0=.inl y/\st.h.length<=(Hy y).length/\Sub js st.h.length ⟨T,st'.h⟩ ⟨T,Hy y⟩:=by
    intro e' q;cases hs:step x s with
    |inr s'=>rw[hs]at q;exact q.elim
    |inl y=>
     rw[hs]at q;obtain⟨q1,js,q2,q3⟩:=q;simp only[jO,hs]at hrun;exact⟨y,js,q1,hrun.symm,q2,q3⟩
   cases e with
   |normal=>
    change rgN T H st.h.length st' (step x s)at hq;cases hs:step x s with
    |inl y=>rw[hs]at hq;exact hq.elim
    |inr s'=>
     rw[hs]at hq;obtain⟨js,q1,q2⟩:=hq;simp only[jO,hs]at hrun;exact⟨.inl s',js,⟨hrun,hok.2 s' hs⟩,q1,q2⟩
   |exit j=>
    obtain⟨y,js,q1,q2,q3,q4⟩:=fin _ hq;exact⟨.inr y,js,⟨q2,q1⟩,q3,q4⟩
   |ret=>
    obtain⟨y,js,q1,q2,q3,q4⟩:=fin _ hq;exact⟨.inr y,js,⟨q2,q1⟩,q3,q4⟩
   |pan x=>exact hq.elim
 ·intro z hI;cases z with
  |inr y=>exact hI.elim
  |inl s=>
   obtain⟨js,q1,q2⟩:=h7 s;have:=hI.1;rw[List.length_map,List.drop_length]at this;exact⟨.inr s,js,this,rfl,q1,q2⟩
 ·intro z hS;cases z with
  |inl s=>exact hS.elim
  |inr y=>
   obtain⟨js,q1,q2⟩:=h8 y;exact⟨.inl y,js,hS.1.symm,hS.2,q1,q2⟩
 ·intro j z hS;cases z with
  |inl s=>exact hS.elim
  |inr y=>
   obtain⟨js,q1,q2⟩:=h8 y;refine⟨.inl y,js,hS.1.symm,?_,q1,q2⟩;have:=hS.2;show exE y=_;rw[this];by_cases hj:j=id
   ·rw[if_pos hj];have hb:Nat.beq j id=true:=by rw[hj];exact Nat.beq_refl id
    rw[hb];rfl
   ·rw[if_neg hj];cases hb:Nat.beq j id with
    |true=>exact absurd (Nat.eq_of_beq_eq_true hb) hj
    |false=>rfl
end
section
variable {P:Program}{ρ σ τ:Type}
def C1:Ob->Option Nat
 | .mi _ _ _ c=>c
 |_=>none
def nxC (step:τ->σ->ρ⊕σ)(l:List τ)(d:τ)(D:List Nat->Option Nat->σ->St)(n0:Nat)(left:List Nat)(s:σ)(st:St):Option Nat->Prop
 |some j=>j∈left/\uU (fun _ s'=>D (left.erase j) (some j) s') n0 0 st (step (l.getD j d) s)
 |none=>False
def exC (step:τ->σ->ρ⊕σ)(l:List τ)(d:τ)(exE:ρ->Ex)(outE:ρ->St)(n0:Nat)(left:List Nat)(s:σ)(e:Ex)(st:St):Option Nat->Prop
 |some j=>j∈left/\ou exE outE n0 e st (step (l.getD j d) s)
 |none=>False
def cM (step:τ->σ->ρ⊕σ)(l:List τ)(d:τ)(exE:ρ->Ex)(outE:ρ->St)(outN:σ->St)(D:List Nat->Option Nat->σ->St)(n0 id it:Nat)(left:List Nat)(s:σ):Ex->St->Prop
 | .normal,st=>nxC step l d D n0 left s st (C1 (al st.h it))
 | .exit j,st=>bif Nat.beq j id then(left=[]->jP (outN s) n0 st)/\(left≠[]->exC step l d exE outE n0 left s .normal st (C1 (al st.h it)))else exC step l d exE outE n0 left s (.exit j) st (C1 (al st.h it))
 | .ret,st=>exC step l d exE outE n0 left s .ret st (C1 (al st.h it))
 | .pan x,st=>exC step l d exE outE n0 left s (.pan x) st (C1 (al st.h it))
variable {step:τ->σ->ρ⊕σ}{l:List τ}{d:τ}{n0 id it j:Nat}{exE:ρ->Ex}{outE:ρ->St}{outN:σ->St}{D:List Nat->Option Nat->σ->St}{left:List Nat}{s s':σ}{st:St}{x:Value}{e:Ex}{y:ρ}{t:List (Nat×SV)}{h:List Ob}
@[go_sem] theorem abh {m:Option Nat}{n:Nat}{left:List Nat}{c:Option Nat}:C1 (.mi m n left c)=c:=(rfl)
@[go_sem] theorem Y3:nxC step l d D n0 left s st (some j)=(j∈left/\uU (fun _ s'=>D (left.erase j) (some j) s') n0 0 st (step (l.getD j d) s)):=(rfl)
@[go_sem] theorem Y4:exC step l d exE outE n0 left s e st (some j)=(j∈left/\ou exE outE n0 e st (step (l.getD j d) s)):=(rfl)
@[go_sem] theorem Xg:cM step l d exE outE outN D n0 id it left s .normal ⟨t,h⟩=nxC step l d D n0 left s ⟨t,h⟩ (C1 (al h it)):=(rfl)
@[go_sem] theorem abi:cM step l d exE outE outN D n0 id it left s (.exit j) ⟨t,h⟩=bif Nat.beq j id then(left=[]->jP (outN s) n0 ⟨t,h⟩)/\(left≠[]->exC step l d exE outE n0 left s .normal ⟨t,h⟩ (C1 (al h it)))else exC step l d exE outE n0 left s (.exit j) ⟨t,h⟩ (C1 (al h it)):=(rfl)
@[go_sem] theorem ack:cM step l d exE outE outN D n0 id it left s .ret ⟨t,h⟩=exC step l d exE outE n0 left s .ret ⟨t,h⟩ (C1 (al h it)):=(rfl)
@[go_sem] theorem acl:cM step l d exE outE outN D n0 id it left s (.pan x) ⟨t,h⟩=exC step l d exE outE n0 left s (.pan x) ⟨t,h⟩ (C1 (al h it)):=(rfl)
attribute [go_sem] Np
@[go_sem] theorem Y5 {t:List (Nat×SV)}{h:List Ob}{d:Nat}{s:SV}:St.put ⟨t,h⟩ (some d) s=⟨(d,s)::t,h⟩:=(rfl)
@[go_sem] theorem Y6 {t:List (Nat×SV)}{h:List Ob}{s:SV}:St.put ⟨t,h⟩ none s=⟨t,h⟩:=(rfl)
end
inductive NLoc where
 |slot (i:Nat) (o:Ob)
 |cell (i j:Nat) (o:Ob)
def OL (j n:Nat):Ob->Ob
 | .cells l=>.cells (l.set j (.os n))
 |o=>o
def RR (j:Nat):Ob->Prop
 | .cells l=>nth l j=some (.v (.slice none 0 0))
 |_=>False
def C2:Ob->Prop
 | .row _ l=>l=[]
 | .grid _ l=>l=[]
 |_=>False
def Mr:SV->Ob->Prop
 | .v (.slice none 0 0),_=>True
 | .e0,.row _ _=>True
 |_,_=>False
def mkN:List NLoc->St->St
 | [],st=>st
 | .slot i o::r,⟨t,h⟩ =>mkN r ⟨(i,.os h.length)::t,h++[o]⟩
 | .cell i j o::r,⟨t,h⟩ =>mkN r ⟨t,bA h i (OL j h.length (al h i))++[o]⟩
def okN:List NLoc->St->Prop
 | [],_=>True
 | .slot i o::r,⟨t,h⟩ =>Mr (lk i t) o/\C2 o/\okN r ⟨(i,.os h.length)::t,h++[o]⟩
 | .cell i j o::r,⟨t,h⟩ =>RR j (al h i)/\C2 o/\okN r ⟨t,bA h i (OL j h.length (al h i))++[o]⟩
section
variable {i j m n:Nat}{o:Ob}{r:List NLoc}{t t2:List (Nat×SV)}{h h2:List Ob}{l:List SV}{ns:List NLoc}{js:List Nat}{st:St}
@[go_sem] theorem abj:mkN [] st=st:=(rfl)
@[go_sem] theorem Y7:mkN (.slot i o::r) ⟨t,h⟩=mkN r ⟨(i,.os h.length)::t,h++[o]⟩:=(rfl)
@[go_sem] theorem Y8:mkN (.cell i j o::r) ⟨t,h⟩=mkN r ⟨t,bA h i (OL j h.length (al h i))++[o]⟩:=(rfl)
@[go_sem] theorem abk:okN [] st=True:=(rfl)
@[go_sem] theorem Y9:okN (.slot i o::r) ⟨t,h⟩=(Mr (lk i t) o/\C2 o/\okN r ⟨(i,.os h.length)::t,h++[o]⟩):=(rfl)
@[go_sem] theorem Y_:okN (.cell i j o::r) ⟨t,h⟩=(RR j (al h i)/\C2 o/\okN r ⟨t,bA h i (OL j h.length (al h i))++[o]⟩):=(rfl)
@[go_sem] theorem Za:Mr (.v (.slice none 0 0)) o=True:=by cases o <;>rfl
@[go_sem] theorem abl {k:Tag}{m:List k.T}:Mr .e0 (.row k m)=True:=(rfl)
@[go_sem] theorem U3:OL j n (.cells l)=.cells (l.set j (.os n)):=(rfl)
@[go_sem] theorem U4:RR j (.cells l)=(nth l j=some (.v (.slice none 0 0))):=(rfl)
theorem KY (h:C2 o):(∃ k,o=.row k [])\/∃ k,o=.grid k []:=by
 cases o <;>simp only[C2]at h
 ·subst h;exact .inl ⟨_,rfl⟩
 ·subst h;exact .inr ⟨_,rfl⟩
theorem OM {s:SV}{o:Ob}(h:Mr s o):s=.v (.slice none 0 0)\/(s=.e0/\∃ k l,o=.row k l):=by
 unfold Mr at h;split at h
 ·exact .inl rfl
 ·exact .inr ⟨rfl,_,_,rfl⟩
 ·exact h.elim
theorem yB:∀ (ns:List NLoc) (st0 st:St),NilS st0 st->okN ns st->NilS st0 (mkN ns st)
 | [],_,_,hn,_=>hn
 | .slot i o::r,st0,⟨t,h⟩,hn,hk=>by
  rcases OM hk.1 with e| ⟨e,k,l,ho⟩
  ·exact yB r st0 _ (.slot o hn e (KY hk.2.1)) hk.2.2
  ·have h2:=hk.2.1;have h3:=hk.2.2;rw[ho]at h2 h3;simp only[C2]at h2;subst h2;subst ho;exact yB r st0 _ (.slotE k hn e) h3
 | .cell i j o::r,st0,⟨t,h⟩,hn,hk=>by
  refine yB r st0 _ ?_ hk.2.2;have h1:=hk.1;cases ho:al h i with
  |cells l=>
   rw[ho]at h1;simp only[RR,gN]at h1;exact .cell o hn ho h1 (KY hk.2.1)
  |_=>rw[ho]at h1;exact h1.elim
def vR (m:Nat)(ns:List NLoc)(js:List Nat)(st d:St):Prop:=st.h.length=m/\okN ns st/\m<=d.h.length/\Sub js m (mkN ns st) d
@[go_sem] theorem Xh:vR m ns js ⟨t,h⟩ ⟨t2,h2⟩=(h.length=m/\okN ns ⟨t,h⟩/\m<=h2.length/\Sub js m (mkN ns ⟨t,h⟩) ⟨t2,h2⟩):=(rfl)
end
theorem ag {P:Program}{ro:Option Nat}{N:Nat}(c:Code):am P ro N L0 c:=by
 induction c with
 |seq a b ha hb=>exact⟨ha,hb⟩
 |cond _ a b ha hb=>exact⟨ha,hb⟩
 |block id c hc=>
  cases c with
  |loop c=>exact fun _ _ _ _ _ h=>by cases h
  |rangeFunc f ps a b=>exact fun _ _ _ _ _ h=>by cases h
  |_=>exact hc
 |_=>trivial
section
variable {ρ σ τ:Type}
def pT:Nat->σ->Prop:=fun _ _=>True
@[go_sem] theorem acm {step:Nat->σ->ρ⊕σ}{n i:Nat}{s:σ}:okI step pT n i s=True:=eq_true (j7 _ _ _ fun _ _ _ _=>trivial)
def LCR (m:Nat)(ns:List NLoc)(js:List Nat)(D:Nat->σ->St)(step:Nat->σ->ρ⊕σ)(p:Nat->σ->Prop)(n:Nat)(s0:σ)(B:Prop)(exE:ρ->Ex)(outE:ρ->St)(st:St):LCon:=
 LC (vR m ns js st (D 0 s0)/\B/\okI step p n 0 s0) (an step n 0 s0) exE outE (D n)
def LCV (m:Nat)(ns:List NLoc)(js:List Nat)(D:Nat->σ->St)(step:Nat->σ->ρ⊕σ)(p:Nat->σ->Prop)(n:Nat)(s0:σ)(exE:ρ->Ex)(outE:ρ->St)(st:St):LCon:=
 LC (vR m ns js st (D 0 s0)/\okI step p n 0 s0/\∀ s,an step n 0 s0≠ .inr s) (an step n 0 s0) exE outE (D n)
variable {m:Nat}{ns:List NLoc}{js:List Nat}{step:Nat->σ->ρ⊕σ}{p:Nat->σ->Prop}{n:Nat}{s0:σ}{B:Prop}{exE:ρ->Ex}{outE:ρ->St}{outN:σ->St}{st:St}{Q:Ex->St->Prop}
@[go_sem] theorem Xi {D:Nat->σ->St}:sL Q (some (LCR m ns js D step p n s0 B exE outE st))=((vR m ns js st (D 0 s0)/\B/\okI step p n 0 s0)/\(∀ x,an step n 0 s0=.inl x->Q (exE x) (outE x))/\∀ s,an step n 0 s0=.inr s->Q .normal (D n s)):=HB
@[go_sem] theorem Xj {D:Nat->σ->St}:sL Q (some (LCV m ns js D step p n s0 exE outE st))=((vR m ns js st (D 0 s0)/\okI step p n 0 s0/\∀ s,an step n 0 s0≠ .inr s)/\∀ x,an step n 0 s0=.inl x->Q (exE x) (outE x)):=by
 refine HB.trans ?_;apply propext;constructor
 ·rintro⟨h1,h2,_⟩;exact⟨h1,h2⟩
 ·rintro⟨h1,h2⟩;exact⟨h1,h2,fun s hs=>absurd hs (h1.2.2 s)⟩
def cR (step:Nat->σ->ρ⊕σ)(exE:ρ->Ex)(outE:ρ->St)(D:Nat->σ->St)(m id k:Nat)(s:σ):Ex->St->Prop
 | .normal,st=>uU D m k st (step k s)
 | .exit j,st=>ou exE outE m (bif Nat.beq j id then .normal else .exit j) st (step k s)
 | .ret,st=>ou exE outE m .ret st (step k s)
 | .pan x,st=>ou exE outE m (.pan x) st (step k s)
def cZ (d:St)(m id:Nat):Ex->St->Prop
 | .exit j,st=>bif Nat.beq j id then jP d m st else False
 |_,_=>False
variable {D:Nat->σ->St}{id k j:Nat}{s:σ}{x:Value}{d:St}{e e':Ex}
@[go_sem] theorem Xk:cR step exE outE D m id k s .normal st=uU D m k st (step k s):=(rfl)
@[go_sem] theorem abm:cR step exE outE D m id k s (.exit j) st=ou exE outE m (bif Nat.beq j id then .normal else .exit j) st (step k s):=(rfl)
@[go_sem] theorem acn:cR step exE outE D m id k s .ret st=ou exE outE m .ret st (step k s):=(rfl)
@[go_sem] theorem aco:cR step exE outE D m id k s (.pan x) st=ou exE outE m (.pan x) st (step k s):=(rfl)
@[go_sem] theorem abn:cZ d m id (.exit j) st=bif Nat.beq j id then jP d m st else False:=(rfl)
@[congr] theorem Zb {st':St}(h:st=st')(he:e=e'):cR step exE outE D m id k s e st=cR step exE outE D m id k s e' st':=by rw[h,he]
@[congr] theorem Zc {st':St}(h:st=st')(he:e=e'):cZ d m id e st=cZ d m id e' st':=by rw[h,he]
@[congr] theorem Tc {r r':ρ⊕σ}(h:r=r')(he:e=e'):ou exE outE m e st r=ou exE outE m e' st r':=by rw[h,he]
end
section
variable {P:Program}{ρ σ τ:Type}{ts:Tis}{G:Cons}{ro:Option Nat}{N:Nat}{id:Nat}{c:Code}{C:St->Option LCon}{m:Nat}{ns:List NLoc}{js:List Nat}{step:Nat->σ->ρ⊕σ}{p:Nat->σ->Prop}{n:Nat}{s0:σ}{exE:ρ->Ex}{outE:ρ->St}{D:Nat->σ->St}
theorem ON {n0:Nat}(hn0:n0=m){s:σ}{k:Nat}(hlt:k<n){I:Nat×σ->Prop}{μ:Nat×σ->Nat}{outN:σ->St}{pre:Prop}{run:ρ⊕σ}
  (hI:∀ s',step k s=.inr s'->I (k+1,s')/\μ (k+1,s') <μ (k,s)) (hx:∀ x,step k s=.inl x->run=.inl x):
  ∀ e st',cR step exE outE D m id k s e st'->vC (fun x:Nat×σ=>D x.1 x.2) I μ n0 (k,s) id (fun e st'=>∃ r js,(LC pre run exE outE outN).post r/\(LC pre run exE outE outN).ex r=e/\n0<=((LC pre run exE outE outN).out r).h.length/\Sub js n0 st' ((LC pre run exE outE outN).out r)) e st':=by
 subst hn0;have hfin:∀ e st',ou exE outE n0 e st' (step k s)->∃ r js,(LC pre run exE outE outN).post r/\(LC pre run exE outE outN).ex r=e/\n0<=((LC pre run exE outE outN).out r).h.length/\Sub js n0 st' ((LC pre run exE outE outN).out r):=by
  intro e st' q;cases hs:step k s with
  |inr s'=>rw[hs]at q;exact q.elim
  |inl x=>
   rw[hs]at q;obtain⟨q2,js,q3,q4⟩:=q;exact⟨.inl x,js,(hx x hs).symm,q2,q3,q4⟩
 intro e st' hq;cases e with
 |normal=>
  change uU D n0 k st' (step k s)at hq;cases hs:step k s with
  |inl x=>rw[hs]at hq;exact hq.elim
  |inr s'=>
   rw[hs]at hq;obtain⟨js,q3,q4⟩:=hq;obtain⟨i1,i2⟩:=hI s' hs;exact⟨(k+1,s'),js,i1,i2,q3,q4⟩
 |exit j=>
  change ou exE outE n0 (bif Nat.beq j id then .normal else .exit j) st' (step k s)at hq;show bif Nat.beq j id then _ else _;cases hb:Nat.beq j id with
  |true=>rw[hb]at hq;exact hfin _ _ hq
  |false=>rw[hb]at hq;exact hfin _ _ hq
 |ret=>exact hfin _ _ hq
 |pan x=>exact hfin _ _ hq
theorem Au {B:Prop}(hm:P.follows .mixedOrders=true)(hts:ts.ok P)(hG:ConsOk P G)(hc:cp N c=true)(hC:∀ st,C st=some (LCR m ns js D step p n s0 B exE outE st))
  (h:B->∀ k s,k<n->p k s->∃ L Q,am P ro N L c/\(∀ e st',Q e st'->cR step exE outE D m id k s e st')/\exec ts G L c (D k s) Q)
  (h2:B->∀ s,∃ Q,(∀ e st',Q e st'->cZ (D n s) m id e st')/\exec ts G L0 c (D n s) Q):mL P ro N id (.loop c) C:=by
 refine wP hm hts hG hc fun st lc hC' hp=>?_;rw[hC st]at hC';cases hC';obtain⟨⟨hlen,hok,hle,hsub⟩,hB,h1⟩:=hp;refine⟨Nat×σ,fun x=>D x.1 x.2,fun x=>x.1<=n/\okI step p (n - x.1) x.1 x.2/\an step (n - x.1) x.1 x.2=an step n 0 s0,fun x=>n - x.1,(0,s0),mkN ns st,js,⟨Nat.zero_le _,by simpa using h1,by simp⟩,yB ns st st (.refl _) hok,by rw[hlen];exact hle,by rw[hlen];exact hsub,?_⟩;rintro⟨k,s⟩ ⟨hk,hJ,hrun⟩;simp only at hk hJ hrun;rcases Nat.lt_or_ge k n with hlt|hge
 ·rw[show n - k=(n - k - 1)+1 by omega]at hrun hJ;obtain⟨L,Q,hl,hQ,hex⟩:=h hB k s hlt hJ.1;have hI:∀ s',step k s=.inr s'->okI step p (n - (k+1)) (k+1) s'/\an step (n - (k+1)) (k+1) s'=an step n 0 s0:=fun s' hs=>by
   have:=hJ.2 s' hs;rw[show n - k - 1=n - (k+1) by omega]at this hrun;simp only[an,hs]at hrun;exact⟨this,hrun⟩
  have hx:∀ x,step k s=.inl x->an step n 0 s0=.inl x:=fun x hs=>by
   simp only[an,hs]at hrun;exact hrun.symm
  exact⟨L,Q,hl,fun e st' q=>ON hlen hlt (fun s' hs=>⟨⟨hlt,hI s' hs⟩,by simp only;omega⟩) hx e st' (hQ e st' q),hex⟩
 ·have hkn:k=n:=by omega
  subst hkn;obtain⟨Q,hQ,hex⟩:=h2 hB s;refine⟨L0,Q,ag c,fun e st' q=>?_,hex⟩;have hq:=hQ e st' q;simp only[Nat.sub_self,an]at hrun;cases e with
  |exit j=>
   change bif Nat.beq j id then jP (D k s) m st' else False at hq;show bif Nat.beq j id then _ else _;cases hb:Nat.beq j id with
   |true=>
    rw[hb]at hq;obtain⟨js,q3,q4⟩:=hq;exact⟨.inr s,js,hrun,rfl,by rw[hlen];exact q3,by rw[hlen];exact q4⟩
   |false=>rw[hb]at hq;exact hq.elim
  |_=>exact hq.elim
theorem a_ {B:Prop}(hm:P.follows .mixedOrders=true)(hts:ts.ok P)(hG:ConsOk P G)(hc:cp N c=true)(hC:∀ st,C st=some (LCR m ns js D step p n s0 B exE outE st))(M:Int)(hn:n=M.toNat)(hB:B->M<9223372036854775808)
  (h:B->∀ k s,k<n->p k s->i64.wrap ((k:Int)+1)=((k+1:Nat):Int)->decide ((k:Int) <M)=true->∃ L,am P ro N L c/\exec ts G L c (D k s) (cR step exE outE D m id k s))
  (h2:B->∀ s,decide ((n:Int) <M)=false->exec ts G L0 c (D n s) (cZ (D n s) m id)):mL P ro N id (.loop c) C:=by
 refine Au hm hts hG hc hC (fun b k s hlt hp=>?_) fun b s=>⟨_,fun _ _ q=>q,h2 b s ?_⟩
 ·obtain⟨L,h1,h3⟩:=h b k s hlt hp (Oc (hn▸hlt) (hB b)) (decide_eq_true (by omega));exact⟨L,_,h1,fun _ _ q=>q,h3⟩
 ·rw[decide_eq_false_iff_not];omega
theorem kw (E:Prop)(hm:P.follows .mixedOrders=true)(hts:ts.ok P)(hG:ConsOk P G)(hc:cp N c=true)(hC:∀ st,C st=some (LCR m ns js D step p n s0 True exE outE st))(M:Int)(hn:n=M.toNat)(hE:E->M<9223372036854775808)
  (h:E->∀ k s,k<n->p k s->i64.wrap ((k:Int)+1)=((k+1:Nat):Int)->decide ((k:Int) <M)=true->∃ L,am P ro N L c/\exec ts G L c (D k s) (cR step exE outE D m id k s))
  (h2:E->∀ s,decide ((n:Int) <M)=false->exec ts G L0 c (D n s) (cZ (D n s) m id)) (h3:¬E->∀ k s,exec ts G L0 c (D k s) fun _ _=>False):mL P ro N id (.loop c) C:=by
 by_cases hb:E
 ·refine Au hm hts hG hc hC (fun b k s hlt hp=>?_) fun b s=>⟨_,fun _ _ q=>q,h2 hb s ?_⟩
  ·obtain⟨L,h1,h4⟩:=h hb k s hlt hp (Oc (hn▸hlt) (hE hb)) (decide_eq_true (by omega));exact⟨L,_,h1,fun _ _ q=>q,h4⟩
  ·rw[decide_eq_false_iff_not];omega
 ·exact Au hm hts hG hc hC (fun _ k s _ _=>⟨L0,_,ag c,fun _ _ q=>q.elim,h3 hb k s⟩) fun _ s=>⟨_,fun _ _ q=>q.elim,h3 hb n s⟩
theorem rq (hm:P.follows .mixedOrders=true)(hts:ts.ok P)(hG:ConsOk P G)(hc:cp N c=true)(hC:∀ st,C st=some (LCV m ns js D step p n s0 exE outE st))
  (h:∀ k s,p k s->∃ L,am P ro N L c/\exec ts G L c (D k s) (cR step exE outE D m id k s)):mL P ro N id (.loop c) C:=by
 refine wP hm hts hG hc fun st lc hC' hp=>?_;rw[hC st]at hC';cases hC';obtain⟨⟨hlen,hok,hle,hsub⟩,h1,hno⟩:=hp;refine⟨Nat×σ,fun x=>D x.1 x.2,fun x=>x.1<=n/\okI step p (n - x.1) x.1 x.2/\an step (n - x.1) x.1 x.2=an step n 0 s0,fun x=>n - x.1,(0,s0),mkN ns st,js,⟨Nat.zero_le _,by simpa using h1,by simp⟩,yB ns st st (.refl _) hok,by rw[hlen];exact hle,by rw[hlen];exact hsub,?_⟩;rintro⟨k,s⟩ ⟨hk,hJ,hrun⟩;simp only at hk hJ hrun;have hlt:k<n:=by
  rcases Nat.lt_or_ge k n with h|h
  ·exact h
  ·have hkn:k=n:=by omega
   subst hkn;simp only[Nat.sub_self,an]at hrun;exact absurd hrun.symm (hno s)
 rw[show n - k=(n - k - 1)+1 by omega]at hrun hJ;obtain⟨L,hl,hex⟩:=h k s hJ.1;have hI:∀ s',step k s=.inr s'->okI step p (n - (k+1)) (k+1) s'/\an step (n - (k+1)) (k+1) s'=an step n 0 s0:=fun s' hs=>by
  have:=hJ.2 s' hs;rw[show n - k - 1=n - (k+1) by omega]at this hrun;simp only[an,hs]at hrun;exact⟨this,hrun⟩
 have hx:∀ x,step k s=.inl x->an step n 0 s0=.inl x:=fun x hs=>by
  simp only[an,hs]at hrun;exact hrun.symm
 exact⟨L,_,hl,fun e st' q=>ON hlen hlt (fun s' hs=>⟨⟨hlt,hI s' hs⟩,by simp only;omega⟩) hx e st' q,hex⟩
theorem gA {α:Type}{l:List α}(h:l.length<=aD):(l.length:Int) <9223372036854775808:=by unfold aD at h;omega
end
section
universe u
variable {α:Type u}{G:List SV->α->Prop}{r:List SV}
theorem cI {k:Int->List SV->Option α}(h:∀ n l c,k n l=some c->G (.v (.int .i64 n)::l) c):∀ l c,pI k l=some c->G l c:=fun l c hc=>by
 obtain⟨n,r,rfl,h1⟩:=UK hc;exact h n r c h1
theorem Jz {k:Int->List SV->Option α}(h:∀ n l c,k n l=some c->G (.v (.int .u64 n)::l) c):∀ l c,pU k l=some c->G l c:=fun l c hc=>by
 obtain⟨n,r,rfl,h1⟩:=Ar hc;exact h n r c h1
theorem OO {k:Bool->List SV->Option α}(h:∀ n l c,k n l=some c->G (.v (.bool n)::l) c):∀ l c,pB k l=some c->G l c:=fun l c hc=>by
 obtain⟨n,r,rfl,h1⟩:=UL hc;exact h n r c h1
theorem bC {t:Tag}{k:List t.T->List SV->Option α}(h:∀ n l c,k n l=some c->G (.rs t n::l) c):∀ l c,pR t k l=some c->G l c:=fun l c hc=>by
 obtain⟨n,r,rfl,h1⟩:=UN hc;exact h n r c h1
theorem bk {t:Tag}{k:t.T->List SV->Option α}(h:∀ n l c,k n l=some c->G (.agg (cellsOf t n)::l) c):∀ l c,pD t k l=some c->G l c:=fun l c hc=>by
 obtain⟨n,r,rfl,h1⟩:=N9 hc;exact h n r c h1
theorem aQ {t:Tag}{k:t.T->List SV->Option α}(h:∀ n l c,k n l=some c->G (.ep (cellsOf t n) 0::l) c):∀ l c,pX t k l=some c->G l c:=fun l c hc=>by
 obtain⟨n,r,rfl,h1⟩:=N8 hc;exact h n r c h1
theorem ai {c0:α}(h:G [] c0):∀ l c,pE c0 l=some c->G l c:=fun l c hc=>by
 obtain⟨rfl,rfl⟩:=CT hc;exact h
end
section
universe u
variable {α:Type u}{G:List SV->α->Prop}
def apO:Option (List SV->Option α)->List SV->Option α
 |some q,r=>q r
 |none,_=>none
@[go_sem] theorem Zd {q:List SV->Option α}{r:List SV}:apO (some q) r=q r:=(rfl)
@[go_sem] theorem Ze {r:List SV}:apO (α:=α) none r=none:=(rfl)
def pFn (f:Nat)(k:List SV->Option (List SV->Option α)):List SV->Option α
 | .fn g [] caps::r=>bif Nat.beq g f then apO (k caps) r else none
 |_=>none
def pXF (f:Nat)(k:List SV->Option (List SV->Option α)):List SV->Option α
 | .ep [.fn g [] caps] 0::r=>bif Nat.beq g f then apO (k caps) r else none
 |_=>none
@[go_sem] theorem acp {f g:Nat}{k:List SV->Option (List SV->Option α)}{caps r:List SV}:pFn f k (.fn g [] caps::r)=bif Nat.beq g f then apO (k caps) r else none:=(rfl)
@[go_sem] theorem acq {f g:Nat}{k:List SV->Option (List SV->Option α)}{caps r:List SV}:pXF f k (.ep [.fn g [] caps] 0::r)=bif Nat.beq g f then apO (k caps) r else none:=(rfl)
theorem zn {o:Option (List SV->Option α)}{r:List SV}{c:α}(h:apO o r=some c):∃ q,o=some q/\q r=some c:=by
 cases o with
 |none=>cases h
 |some q=>exact⟨q,rfl,h⟩
theorem bJ {f:Nat}{k:List SV->Option (List SV->Option α)}(h:∀ caps q,k caps=some q->∀ l c,q l=some c->G (.fn f [] caps::l) c):∀ l c,pFn f k l=some c->G l c:=fun l c hc=>by
 unfold pFn at hc;split at hc
 ·rename_i g caps r;cases hb:Nat.beq g f with
  |false=>rw[hb]at hc;cases hc
  |true=>
   rw[hb]at hc;obtain⟨q,h1,h2⟩:=zn hc;have:=Nat.eq_of_beq_eq_true hb;subst this;exact h caps q h1 r c h2
 ·cases hc
theorem lf {f:Nat}{k:List SV->Option (List SV->Option α)}(h:∀ caps q,k caps=some q->∀ l c,q l=some c->G (.ep [.fn f [] caps] 0::l) c):∀ l c,pXF f k l=some c->G l c:=fun l c hc=>by
 unfold pXF at hc;split at hc
 ·rename_i g caps r;cases hb:Nat.beq g f with
  |false=>rw[hb]at hc;cases hc
  |true=>
   rw[hb]at hc;obtain⟨q,h1,h2⟩:=zn hc;have:=Nat.eq_of_beq_eq_true hb;subst this;exact h caps q h1 r c h2
 ·cases hc
def pFB (f:Nat)(k:List SV->Option (List SV->Option α)):List SV->Option α
 | .fn g caps []::r=>bif Nat.beq g f then apO (k caps) r else none
 |_=>none
def JA (f:Nat)(k:List SV->Option (List SV->Option α)):List SV->Option α
 | .ep [.fn g caps []] 0::r=>bif Nat.beq g f then apO (k caps) r else none
 |_=>none
@[go_sem] theorem acr {f g:Nat}{k:List SV->Option (List SV->Option α)}{caps r:List SV}:pFB f k (.fn g caps []::r)=bif Nat.beq g f then apO (k caps) r else none:=(rfl)
@[go_sem] theorem abo {f g:Nat}{k:List SV->Option (List SV->Option α)}{caps r:List SV}:JA f k (.ep [.fn g caps []] 0::r)=bif Nat.beq g f then apO (k caps) r else none:=(rfl)
@[go_sem] theorem acs {f g:Nat}{k:List SV->Option (List SV->Option α)}{b c r:List SV}{x:SV}:pFB f k (.fn g b (x::c)::r)=none:=(rfl)
@[go_sem] theorem abp {f g:Nat}{k:List SV->Option (List SV->Option α)}{b c r:List SV}{x:SV}:JA f k (.ep [.fn g b (x::c)] 0::r)=none:=(rfl)
@[go_sem] theorem act {f g:Nat}{k:List SV->Option (List SV->Option α)}{b c r:List SV}{x:SV}:pFn f k (.fn g (x::b) c::r)=none:=(rfl)
@[go_sem] theorem acu {f g:Nat}{k:List SV->Option (List SV->Option α)}{b c r:List SV}{x:SV}:pXF f k (.ep [.fn g (x::b) c] 0::r)=none:=(rfl)
theorem KZ {f:Nat}{k:List SV->Option (List SV->Option α)}(h:∀ caps q,k caps=some q->∀ l c,q l=some c->G (.fn f caps []::l) c):∀ l c,pFB f k l=some c->G l c:=fun l c hc=>by
 unfold pFB at hc;split at hc
 ·rename_i g caps r;cases hb:Nat.beq g f with
  |false=>rw[hb]at hc;cases hc
  |true=>
   rw[hb]at hc;obtain⟨q,h1,h2⟩:=zn hc;have:=Nat.eq_of_beq_eq_true hb;subst this;exact h caps q h1 r c h2
 ·cases hc
theorem C3 {f:Nat}{k:List SV->Option (List SV->Option α)}(h:∀ caps q,k caps=some q->∀ l c,q l=some c->G (.ep [.fn f caps []] 0::l) c):∀ l c,JA f k l=some c->G l c:=fun l c hc=>by
 unfold JA at hc;split at hc
 ·rename_i g caps r;cases hb:Nat.beq g f with
  |false=>rw[hb]at hc;cases hc
  |true=>
   rw[hb]at hc;obtain⟨q,h1,h2⟩:=zn hc;have:=Nat.eq_of_beq_eq_true hb;subst this;exact h caps q h1 r c h2
 ·cases hc
end
def pXX {α:Type 1}(t:Tag)(k:t.T->List SV->Option α):List SV->Option α
 | .ep [s] 0::r=>pX t k (s::r)
 |_=>none
@[go_sem] theorem Zf {α:Type 1}{t:Tag}{k:t.T->List SV->Option α}{s:SV}{r:List SV}:pXX t k (.ep [s] 0::r)=pX t k (s::r):=(rfl)
theorem RS {α:Type 1}{t:Tag}{k:t.T->List SV->Option α}{l:List SV}{c:α}(h:pXX t k l=some c):∃ x r,l=.ep [.ep (cellsOf t x) 0] 0::r/\k x r=some c:=by
 unfold pXX at h;split at h
 ·obtain⟨x,r,e,h1⟩:=N8 h;simp only[List.cons.injEq]at e;obtain⟨rfl,rfl⟩:=e;exact⟨x,_,rfl,h1⟩
 ·cases h
theorem bK {α:Type 1}{G:List SV->α->Prop}{t:Tag}{k:t.T->List SV->Option α}(h:∀ n l c,k n l=some c->G (.ep [.ep (cellsOf t n) 0] 0::l) c):∀ l c,pXX t k l=some c->G l c:=fun l c hc=>by
 obtain⟨n,r,rfl,h1⟩:=RS hc;exact h n r c h1
theorem BJ {α:Type 1}{G:List SV->α->Prop}{t:Tag}{k:List t.T->List SV->Option α}(h:∀ n l c,k n l=some c->G (.ep [.rs t n] 0::l) c):∀ l c,pXR t k l=some c->G l c:=fun l c hc=>by
 obtain⟨n,r,rfl,h1⟩:=RQ hc;exact h n r c h1
def RT (k:Tag)(K:List k.T->Option HCon):List Ob->Option HCon
 | [.row k' l] =>if h:k'=k then K (h▸l)else none
 |_=>none
theorem OP {k:Tag}{K:List k.T->Option HCon}{h:List Ob}{c:HCon}(hh:RT k K h=some c):∃ l,h=[.row k l]/\K l=some c:=by
 unfold RT at hh;split at hh
 ·split at hh
  ·rename_i e;subst e;exact⟨_,rfl,hh⟩
  ·cases hh
 ·cases hh
end Go.Sx
end
section
namespace Go.Sx
open Go.Proofs
open IntKind (i64 u64)
theorem czl {p:Prop}(h:p:=by first|(simp only[*,cond_true,cond_false,Bool.not_true,Bool.not_false,go_sem,Nat.reduceBEq,Nat.reduceLeDiff,Nat.reduceLT,decide_true,Nat.reduceAdd,Nat.reduceSub,Nat.reduceMul,Int.reduceLE,Int.reduceLT,Int.reduceToNat,Int.reduceNeg,reduceCtorEq];done) |fail):p:=h
theorem jA {l0:List Nat}(a0:JL l0){p:Prop}(h:JL l0->p:=by intro ja;(first|done|(repeat' (first|with_reducible refine And.intro ?_ ?_|((with_reducible show _≠_);first|assumption|omega|(simp_all [et,fN];done) |grind) |with_reducible intro _)) <;>(first|done|with_reducible exact Empty.elim ‹Empty› |with_reducible assumption|rfl|omega|assumption|decide|exact fk ja|exact czl|(simp only[*,cond_true,cond_false,Bool.not_true,Bool.not_false,go_sem,Nat.reduceBEq,Nat.reduceLeDiff,Nat.reduceLT,decide_true,Nat.reduceAdd,Nat.reduceSub,Nat.reduceMul,Int.reduceLE,Int.reduceLT,Int.reduceToNat,Int.reduceNeg,reduceCtorEq];(repeat' (first|with_reducible refine And.intro ?_ ?_|((with_reducible show _≠_);first|assumption|omega|(simp_all [et,fN];done) |grind) |with_reducible intro _)) <;>(first|done|assumption|rfl|omega|decide|exact fk ja|(simp_all [et,fN];done))) |(simp_all [okI,et,fN];done) |(simp_all [et,fN];(first|done|exact fk2 ja)) |exact fk2 ja))):p:=h a0
theorem bi {l0:List Nat}(a0:JL l0){p:Prop}(h:JL l0->p:=by intro ja;simp only[go_sem,Nat.reduceBEq,Nat.reduceLeDiff,Nat.reduceLT,decide_true,Nat.reduceAdd,Nat.reduceSub,Nat.reduceMul,Int.reduceLE,Int.reduceLT,Int.reduceToNat,Int.reduceNeg,reduceCtorEq,hc,hw];all_goals exact jA ja):p:=h a0
theorem ba {l0:List Nat}(a0:JL l0){p:Prop}(h:JL l0->p:=by intro ja;simp only[go_sem,Nat.reduceBEq,Nat.reduceLeDiff,Nat.reduceLT,decide_true,Nat.reduceAdd,Nat.reduceSub,Nat.reduceMul,Int.reduceLE,Int.reduceLT,Int.reduceToNat,Int.reduceNeg,reduceCtorEq,hc];all_goals exact jA ja):p:=h a0
def lQ (x:Int):Bool:=false
@[go_sem] def v8:List SV->Option Con:=(pI fun x=>(pE (.det True (.v (.bool (lQ x))))))
theorem zq1 {p:Prop}(h:p:=by simp only[go_sem,Nat.reduceBEq,Nat.reduceLeDiff,Nat.reduceLT,decide_true,Nat.reduceAdd,Nat.reduceSub,Nat.reduceMul,Int.reduceLE,Int.reduceLT,Int.reduceToNat,Int.reduceNeg,reduceCtorEq];all_goals exact cl):p:=h
theorem Av:FnOk Tryz.prog 145 v8:=by
 have hG:ConsOk Tryz.prog (mkG [] []):=ar cg0 cg0;refine ay [.o] mixed ak hG (fn:=Tryz.f145) (c:=ae Tryz.f145) kr kr kr kr (cI fun x=>(ai (fun hp=>?_)));dsimp only[ax]at hp;refine⟨nbl rfl,L0,ag _,?_⟩
 ·unfold ae Tryz.f145;try unfold lQ
  exact zq1
def cK (x:Int)(y:Int):Int:=(bif(lQ x)then(bif(lQ y)then 0 else(-1))else(bif(lQ y)then 1 else(bif(decide (x<y))then(-1)else(bif(decide (x > y))then 1 else 0))))
@[go_sem] def ml:List SV->Option Con:=(pI fun x=>(pI fun y=>(pE (.det True (.v (.int .i64 (cK x y)))))))
theorem oR:FnOk Tryz.prog 97 ml:=by
 have hG:ConsOk Tryz.prog (mkG [(145,v8)] []):=ar (cgc Av cg0) cg0;refine ay [.o] mixed ak hG (fn:=Tryz.f97) (c:=ae Tryz.f97) kr kr kr kr (cI fun x=>(cI fun y=>(ai (fun hp=>?_))));dsimp only[ax]at hp;refine⟨nbl rfl,L0,ag _,?_⟩
 ·unfold ae Tryz.f97;try unfold cK
  exact zq1
def gW (n:Int):Int:=(bif(decide (n<0))then(u64.wrap (0 - (u64.wrap n)))else(u64.wrap n))
@[go_sem] def tR:List SV->Option Con:=(pI fun n=>(pE (.det True (.v (.int .u64 (gW n))))))
theorem yC:FnOk Tryz.prog 263 tR:=by
 have hG:ConsOk Tryz.prog (mkG [] []):=ar cg0 cg0;refine ay [.o] mixed ak hG (fn:=Tryz.f263) (c:=ae Tryz.f263) kr kr kr kr (cI fun n=>(ai (fun hp=>?_)));dsimp only[ax]at hp;refine⟨nbl rfl,L0,ag _,?_⟩
 ·unfold ae Tryz.f263;try unfold gW
  exact zq1
def ee (a:Ratio):Int:=(bif(((((decide (a.d<1)) ||(decide (a.d > 1073741824))) ||(decide (a.n< (-1073741824)))) ||(decide (a.n > 1073741824))) ||(((Mo (Int.toNat (gW a.n)) (Int.toNat (u64.wrap a.d)):Nat):Int) !=1))then 120 else 0)
def x5 (a:Ratio):Prop:=(((((decide (a.d<1)) ||(decide (a.d > 1073741824))) ||(decide (a.n< (-1073741824)))) ||(decide (a.n > 1073741824)))=false->(0<=(gW a.n)/\0<=(u64.wrap a.d)))
theorem C4 (n:Int):0<=u64.wrap n:=by
 simp[IntKind.wrap,IntKind.bits,IntKind.signed];omega
theorem Aw (n:Int):0<=gW n:=by
 unfold gW;cases decide (n<0) <;>exact C4 _
theorem C5 (a:Ratio):x5 a:=fun _=>⟨Aw _,C4 _⟩
@[go_sem] def x6:List SV->Option Con:=(pD .ratio fun a=>(pE (.det True (.v (.int .i64 (ee a))))))
theorem zq4 {p:Prop}(h:p:=by simp only[go_sem,Nat.reduceBEq,Nat.reduceLeDiff,Nat.reduceLT,decide_true,Nat.reduceAdd,Nat.reduceSub,Nat.reduceMul,Int.reduceLE,Int.reduceLT,Int.reduceToNat,Int.reduceNeg,reduceCtorEq,C83];all_goals exact cl):p:=h
theorem C6:FnOk Tryz.prog 253 x6:=by
 have hG:ConsOk Tryz.prog (mkG [(262,C83),(263,tR)] []):=ar (cgc U0 (cgc yC cg0)) cg0;refine ay [.o] mixed ak hG (fn:=Tryz.f253) (c:=ae Tryz.f253) kr kr kr kr (bk fun a=>(ai (fun hp=>?_)));dsimp only[ax]at hp;have hp:=C5 a;unfold x5 at hp;refine⟨nbl rfl,L0,ag _,?_⟩
 ·unfold ae Tryz.f253;try unfold ee
  exact zq4
def qt (a:Ratio)(b:Ratio):Int×Int:=(bif(((ee a) !=0) ||((ee b) !=0))then(0,120)else((cK (i64.wrap (a.n*b.d)) (i64.wrap (b.n*a.d))),0))
@[go_sem] def A1:List SV->Option Con:=(pD .ratio fun a=>(pD .ratio fun b=>(pE (.det True (.tup [.v (.int .i64 ((qt a b).1)),.v (.int .i64 ((qt a b).2))])))))
theorem FZ:FnOk Tryz.prog 229 A1:=by
 have hG:ConsOk Tryz.prog (mkG [(97,ml),(253,x6)] []):=ar (cgc oR (cgc C6 cg0)) cg0;refine ay [.o,.o] mixed ak hG (fn:=Tryz.f229) (c:=ae Tryz.f229) kr kr kr kr (bk fun a=>(bk fun b=>(ai (fun hp=>?_))));dsimp only[ax]at hp;refine⟨nbl rfl,L0,ag _,?_⟩
 ·unfold ae Tryz.f229;try unfold qt
  exact zq1
def DS (ok:Bool)(e:Int):Unit:=(bif(!ok)then default else())
def dg (ok:Bool)(e:Int):Bool:=(bif(!ok)then false else true)
@[go_sem] def rO:List SV->Option Con:=(pB fun ok=>(pI fun e=>(pE (.may (dg ok e) (.tup []) (.iface 214 (.int .i64 e))))))
theorem uV:FnOk Tryz.prog 107 rO:=by
 have hG:ConsOk Tryz.prog (mkG [] []):=ar cg0 cg0;refine ay [] mixed ak hG (fn:=Tryz.f107) (c:=ae Tryz.f107) kr kr kr kr (OO fun ok=>(cI fun e=>(ai (fun hp=>?_))));dsimp only[ax]at hp;refine⟨nbl rfl,L0,ag _,?_⟩
 ·unfold ae Tryz.f107;try unfold DS
  try unfold dg
  exact zq1
@[go_sem] def bS (l_:List Int)(k_0:Nat)(s_0:Unit):Unit⊕Unit:=(bif(decide ((l_.getD (Int.toNat ((k_0:Int)+1)) 0) < (l_.getD (Int.toNat (i64.wrap (((k_0:Int)+1) - 1))) 0)))then .inl ()else .inr ())
def lg (l_:List Int)(k_0:Nat)(s_0:Unit):Prop:=(l_.length<=aD->((0<=((k_0:Int)+1)/\((k_0:Int)+1) < (l_.length:Int))/\(0<=(i64.wrap (((k_0:Int)+1) - 1))/\(i64.wrap (((k_0:Int)+1) - 1)) < (l_.length:Int))))
def aM (l_:List Int):Bool:=(match an (bS l_) (l_.length - 1) 0 ()with| .inl x_0_0=>false| .inr s_0=>true)
def v_ (l_:List Int):Prop:=okI (bS l_) (lg l_) (l_.length - 1) 0 ()
theorem Ax (l_:List Int):v_ l_:=j7 _ _ _ fun j s h1 h2 hm=>by
 unfold aD at hm;rw[fE (by omega) (by omega)];omega
@[go_sem] def oG:List SV->Option Con:=(pR .int fun l_=>(pE (.det True (.v (.bool (aM l_))))))
theorem zq7 {p:Prop}(h:p:=by simp only[go_sem,Nat.reduceBEq,Nat.reduceLeDiff,Nat.reduceLT,decide_true,Nat.reduceAdd,Nat.reduceSub,Nat.reduceMul,Int.reduceLE,Int.reduceLT,Int.reduceToNat,Int.reduceNeg,reduceCtorEq,hb0]):p:=h
theorem zq8 {p:Prop}(h:p:=by simp only[go_sem,Nat.reduceBEq,Nat.reduceLeDiff,Nat.reduceLT,decide_true,Nat.reduceAdd,Nat.reduceSub,Nat.reduceMul,Int.reduceLE,Int.reduceLT,Int.reduceToNat,Int.reduceNeg,reduceCtorEq,bS,hc0,hw0];all_goals exact cl):p:=h
theorem zq9 {p:Prop}(h:p:=by simp only[go_sem,Nat.reduceBEq,Nat.reduceLeDiff,Nat.reduceLT,decide_true,Nat.reduceAdd,Nat.reduceSub,Nat.reduceMul,Int.reduceLE,Int.reduceLT,Int.reduceToNat,Int.reduceNeg,reduceCtorEq,hc0];all_goals exact cl2):p:=h
theorem qu:FnOk Tryz.prog 148 oG:=by
 have hG:ConsOk Tryz.prog (mkG [] []):=ar cg0 cg0;refine ay [.o] mixed ak hG (fn:=Tryz.f148) (c:=ae Tryz.f148) kr kr kr kr (bC fun l_=>(ai (fun hp=>?_)));dsimp only[ax]at hp;have hp:=Ax l_;unfold v_ at hp;refine⟨nbl rfl,(fun id st=>bif Nat.beq id 0 then some (LC (ρ:=Unit) (σ:=Unit) (lk 0 st.t=.rs .int l_/\lk 3 st.t=.v (.int .i64 1)/\st.h=[]/\okI (bS l_) (lg l_) (l_.length - 1) 0 ()) (an (bS l_) (l_.length - 1) 0 ()) (fun _=>.ret) (fun x_0_0=>⟨[(2,.v (.bool false))],[]⟩) (fun s_0=>⟨[],[]⟩))else none),?_,?_⟩
 ·unfold ae Tryz.f148;simp only[am,true_and,and_true]
  ·refine Mn mixed ak hG kr fun st lc hC hp=>?_;simp only[go_sem,Nat.reduceBEq,Option.some.injEq]at hC;subst hC;obtain⟨t,h⟩:=st;dsimp only[LC]at hp;obtain⟨e0_0,e0_1,rfl,hok0⟩:=hp;refine⟨_,_,_,(bS l_),(lg l_),(l_.length - 1),(),_,_,_,(fun k_0 s_0=>⟨[(0,.rs .int l_),(3,.v (.int .i64 ((k_0:Int)+1)))],[]⟩),[],rfl,hok0,Nat.le_refl _,?_,fun k_0 s_0 hk0 hp0=>?_⟩
   ·simp only[go_sem,Nat.reduceBEq,Nat.reduceLeDiff,Nat.reduceLT,decide_true,Nat.reduceAdd,Nat.reduceSub,Nat.reduceMul,Int.reduceLE,Int.reduceLT,Int.reduceToNat,Int.reduceNeg,reduceCtorEq,e0_0,e0_1];all_goals (first|done|decide|(repeat' (first|refine And.intro ?_ ?_|rfl|decide)))
   refine⟨L0,?_,?_⟩
   ·simp only[am,and_self,true_and,and_true]
   ·by_cases hb0:l_.length<=aD
    rotate_left
    ·exact zq7
    ·by_cases hlt0:k_0< (l_.length - 1)
     ·have hw0:i64.wrap (((k_0:Nat):Int)+1+1)=((k_0+1:Nat):Int)+1:=by(have hbb:=hb0;have hll:=hlt0;try unfold aD at hbb);rw[fE (by omega) (by omega)];omega
      have hq0:=hp0 hlt0;unfold lg at hq0
      replace hq0:=hq0 hb0
      try simp only[hw0,Int.toNat_natCast]at hq0
      have hc0:decide (((k_0:Int)+1) < (l_.length:Int))=true:=by simp only[decide_eq_true_eq];omega
      exact zq8
     ·have hc0:decide (((k_0:Int)+1) < (l_.length:Int))=false:=by simp only[decide_eq_false_iff_not];omega
      exact zq9
 ·unfold ae Tryz.f148;try unfold aM
  exact zq1
def fu (i:Int)(n:Int):Bool:=((decide (i>=0))&&(decide (i<n)))
@[go_sem] def pz:List SV->Option Con:=(pI fun i=>(pI fun n=>(pE (.det True (.v (.bool (fu i n)))))))
theorem rP:FnOk Tryz.prog 150 pz:=by
 have hG:ConsOk Tryz.prog (mkG [] []):=ar cg0 cg0;refine ay [.o] mixed ak hG (fn:=Tryz.f150) (c:=ae Tryz.f150) kr kr kr kr (cI fun i=>(cI fun n=>(ai (fun hp=>?_))));dsimp only[ax]at hp;refine⟨nbl rfl,L0,ag _,?_⟩
 ·unfold ae Tryz.f150;try unfold fu
  exact zq1
def pA (x:Ratio×Ratio):Bool:=(((((qt x.1 x.2).2==0)&&(decide (x.1.n>=0)))&&(decide ((qt x.1 x.2).1<=0)))&&(decide (x.2.n<=x.2.d)))
@[go_sem] def wQ:List SV->Option Con:=(pD .ratio2 fun x=>(pE (.det True (.v (.bool (pA x))))))
theorem Bm:FnOk Tryz.prog 201 wQ:=by
 have hG:ConsOk Tryz.prog (mkG [(229,A1)] []):=ar (cgc FZ cg0) cg0;refine ay [.o] mixed ak hG (fn:=Tryz.f201) (c:=ae Tryz.f201) kr kr kr kr (bk fun x=>(ai (fun hp=>?_)));dsimp only[ax]at hp;refine⟨nbl rfl,L0,ag _,?_⟩
 ·unfold ae Tryz.f201;try unfold pA
  exact zq1
def lh (i:Int)(x:Reach):Bool:=letI q0:=aM ([0,x.evap.lo,x.evap.hi,1073741824]);letI q1:=aM ([0,x.siphon,x.bank,1099511627776]);letI q2:=aM ([0,x.siphon,x.cap,1073741824]);letI q3:=aM ([1,x.delay,16]);letI q4:=pA x.seep;(bif(decide (i > 0))then((((((fu x.up i)&&q3)&&q2)&&q1)&&q0)&&q4)else((((((x.up==(-1))&&q3)&&q2)&&q1)&&q0)&&q4))
@[go_sem] def wR:List SV->Option Con:=(pI fun i=>(pD .reach fun x=>(pE (.det True (.v (.bool (lh i x)))))))
theorem Bn:FnOk Tryz.prog 149 wR:=by
 have hG:ConsOk Tryz.prog (mkG [(148,fun l=>oG (bp [.sl .int] l)),(150,pz),(201,wQ)] []):=ar (cgc (qu.norm [.sl .int]) (cgc rP (cgc Bm cg0))) cg0;refine ay [.o] mixed ak hG (fn:=Tryz.f149) (c:=ae Tryz.f149) kr kr kr kr (cI fun i=>(bk fun x=>(ai (fun hp=>?_))));dsimp only[ax]at hp;refine⟨nbl rfl,L0,ag _,?_⟩
 ·unfold ae Tryz.f149;try unfold lh
  exact zq1
def pC (a0:District)(a1:Right):Bool:=letI q0:=(a1.every==0)&&(a1.length==0);letI q1:=i64.wrap (a0.hours - 1);letI q2:=a1.reach==a1.reach;letI q3:=a1.name==a1.name;letI q4:=a1.kind==a1.kind;letI q5:=a1.farm==a1.farm;(bif(((!(fu a1.farm (a0.farms.length:Int))) ||(!(fu a1.reach (a0.reaches.length:Int)))) ||(!(aM ([0,a1.since,a1.to,q1]))))then false else(bif(a1.kind==1)then((((a1.reach==0)&&(aM ([0,a1.rank,1048576])))&&(aM ([1,a1.litres,1073741824])))&&(aM ([1,a1.length,a1.every,a0.hours])))else(bif(a1.kind==2)then(q3&&(q4&&(q5&&(q2&&((a1.rank==0)&&((a1.litres==0)&&((a1.since==0)&&((a1.to==q1)&&q0))))))))else(bif(a1.kind==3)then(q3&&(q4&&(q5&&(q2&&((a1.rank==0)&&((a1.litres==0)&&((a1.since==a1.since)&&((a1.to==a1.to)&&q0))))))))else false))))
@[go_sem] def wS:List SV->Option Con:=(pD .district fun a0=>(pD .right fun a1=>(pE (.det True (.v (.bool (pC a0 a1)))))))
theorem Bo:FnOk Tryz.prog 151 wS:=by
 have hG:ConsOk Tryz.prog (mkG [(148,fun l=>oG (bp [.sl .int] l)),(150,pz)] []):=ar (cgc (qu.norm [.sl .int]) (cgc rP cg0)) cg0;refine ay [.o] mixed ak hG (fn:=Tryz.f151) (c:=ae Tryz.f151) kr kr kr kr (bk fun a0=>(bk fun a1=>(ai (fun hp=>?_))));dsimp only[ax]at hp;refine⟨nbl rfl,L0,ag _,?_⟩
 ·unfold ae Tryz.f151;try unfold pC
  exact zq1
@[go_sem] def eV (a0:District)(a1:Int)(k_0:Nat)(s_0:Unit):Unit⊕Unit:=(bif(dg (lh (k_0:Int) (a0.reaches.getD k_0 default)) a1)then .inr ()else .inl ())
@[go_sem] def eW (a0:District)(a1:Int)(k_1:Nat)(s_1:Unit):Unit⊕Unit:=(bif(dg (aM ([0,(a0.crops.getD k_1 default).need,1048576])) a1)then .inr ()else .inl ())
@[go_sem] def eX (a0:District)(a1:Int)(k_2:Nat)(s_2:Unit):Unit⊕Unit:=letI q0:=a0.farms.getD k_2 default;letI q1:=fu (q0.reach) (a0.reaches.length:Int);letI q2:=aM ([0,q0.area,1048576]);(bif(decide (q0.area > 0))then(bif(dg (((fu (q0.crop) (a0.crops.length:Int))&&q1)&&q2) a1)then .inr ()else .inl ())else(bif(dg (((q0.crop==(-1))&&q1)&&q2) a1)then .inr ()else .inl ()))
@[go_sem] def fF (a0:District)(a1:Int)(k_3:Nat)(s_3:Unit):Unit⊕Unit:=(bif(dg (pC a0 (a0.rights.getD k_3 default)) a1)then .inr ()else .inl ())
@[go_sem] def fG (a0:District)(a1:Int)(k_4:Nat)(s_4:Unit):Unit⊕Unit:=letI q0:=a0.duties.getD k_4 default;(bif(dg (((fu (q0.farm) (a0.farms.length:Int))&&(fu (q0.reach) (a0.reaches.length:Int)))&&(aM ([0,q0.due,a0.hours]))) a1)then .inr ()else .inl ())
def C7 (a0:District)(a1:Int):Unit:=(bif(dg (((aM ([1,a0.hours,4096]))&&(aM ([0,a0.tank.start,a0.tank.cap,1099511627776])))&&(decide ((a0.reaches.length:Int) > 0))) a1)then(match an (eV a0 a1) a0.reaches.length 0 ()with| .inl x_0_0=>default| .inr s_0=>(match an (eW a0 a1) a0.crops.length 0 ()with| .inl x_1_0=>default| .inr s_1=>(match an (eX a0 a1) a0.farms.length 0 ()with| .inl x_2_0=>default| .inr s_2=>(match an (fF a0 a1) a0.rights.length 0 ()with| .inl x_3_0=>default| .inr s_3=>(match an (fG a0 a1) a0.duties.length 0 ()with| .inl x_4_0=>default| .inr s_4=>())))))else default)
def gO (a0:District)(a1:Int):Bool:=(bif(dg (((aM ([1,a0.hours,4096]))&&(aM ([0,a0.tank.start,a0.tank.cap,1099511627776])))&&(decide ((a0.reaches.length:Int) > 0))) a1)then(match an (eV a0 a1) a0.reaches.length 0 ()with| .inl x_0_0=>false| .inr s_0=>(match an (eW a0 a1) a0.crops.length 0 ()with| .inl x_1_0=>false| .inr s_1=>(match an (eX a0 a1) a0.farms.length 0 ()with| .inl x_2_0=>false| .inr s_2=>(match an (fF a0 a1) a0.rights.length 0 ()with| .inl x_3_0=>false| .inr s_3=>(match an (fG a0 a1) a0.duties.length 0 ()with| .inl x_4_0=>false| .inr s_4=>true)))))else false)
@[go_sem] def uW:List SV->Option Con:=(pD .district fun a0=>(pI fun a1=>(pE (.may (gO a0 a1) (.tup []) (.iface 214 (.int .i64 a1))))))
theorem zo:FnOk Tryz.prog 108 uW:=by
 have hG:ConsOk Tryz.prog (mkG [(107,rO),(148,fun l=>oG (bp [.sl .int] l)),(149,wR),(150,pz),(151,fun l=>wS (bp [.st .district,.st .right] l))] []):=ar (cgc uV (cgc (qu.norm [.sl .int]) (cgc Bn (cgc rP (cgc (Bo.norm [.st .district,.st .right]) cg0))))) cg0;refine ay [] mixed ak hG (fn:=Tryz.f108) (c:=ae Tryz.f108) kr kr kr kr (bk fun a0=>(cI fun a1=>(ai (fun hp=>?_))));dsimp only[ax]at hp;refine⟨nbl rfl,(fun id st=>bif Nat.beq id 0 then some (LCR (ρ:=Unit) (σ:=Unit) 1 [] [0] (fun k_0 s_0=>⟨[(1,.v (.int .i64 a1)),(2,.ptr 0 0),(38,.rs .reach a0.reaches),(39,.v (.int .i64 (a0.reaches.length:Int))),(40,.v (.int .i64 (k_0:Int)))],[.cells (cellsOf .district a0)]⟩) (eV a0 a1) pT a0.reaches.length () (a0.reaches.length<=aD) (fun _=>.pan (.iface 214 (.int .i64 a1))) (fun x_0_0=>⟨[],[.dead]⟩) st)else bif Nat.beq id 2 then some (LCR (ρ:=Unit) (σ:=Unit) 1 [] [0] (fun k_1 s_1=>⟨[(1,.v (.int .i64 a1)),(2,.ptr 0 0),(52,.rs .crop a0.crops),(53,.v (.int .i64 (a0.crops.length:Int))),(54,.v (.int .i64 (k_1:Int)))],[.cells (cellsOf .district a0)]⟩) (eW a0 a1) pT a0.crops.length () (a0.crops.length<=aD) (fun _=>.pan (.iface 214 (.int .i64 a1))) (fun x_1_0=>⟨[],[.dead]⟩) st)else bif Nat.beq id 4 then some (LCR (ρ:=Unit) (σ:=Unit) 1 [] [0] (fun k_2 s_2=>⟨[(1,.v (.int .i64 a1)),(2,.ptr 0 0),(66,.rs .farm a0.farms),(67,.v (.int .i64 (a0.farms.length:Int))),(68,.v (.int .i64 (k_2:Int)))],[.cells (cellsOf .district a0)]⟩) (eX a0 a1) pT a0.farms.length () (a0.farms.length<=aD) (fun _=>.pan (.iface 214 (.int .i64 a1))) (fun x_2_0=>⟨[],[.dead]⟩) st)else bif Nat.beq id 6 then some (LCR (ρ:=Unit) (σ:=Unit) 1 [] [0] (fun k_3 s_3=>⟨[(1,.v (.int .i64 a1)),(2,.ptr 0 0),(103,.rs .right a0.rights),(104,.v (.int .i64 (a0.rights.length:Int))),(105,.v (.int .i64 (k_3:Int)))],[.cells (cellsOf .district a0)]⟩) (fF a0 a1) pT a0.rights.length () (a0.rights.length<=aD) (fun _=>.pan (.iface 214 (.int .i64 a1))) (fun x_3_0=>⟨[],[.dead]⟩) st)else bif Nat.beq id 8 then some (LCR (ρ:=Unit) (σ:=Unit) 1 [] [0] (fun k_4 s_4=>⟨[(1,.v (.int .i64 a1)),(2,.ptr 0 0),(116,.rs .duty a0.duties),(117,.v (.int .i64 (a0.duties.length:Int))),(118,.v (.int .i64 (k_4:Int)))],[.cells (cellsOf .district a0)]⟩) (fG a0 a1) pT a0.duties.length () (a0.duties.length<=aD) (fun _=>.pan (.iface 214 (.int .i64 a1))) (fun x_4_0=>⟨[],[.dead]⟩) st)else none),?_,?_⟩
 ·unfold ae Tryz.f108;simp only[am,true_and,and_true];refine⟨?_,?_,?_,?_,?_⟩
  ·refine a_ mixed ak hG kr (fun _=>rfl) (a0.reaches.length:Int) rfl gA (fun hb0 k_0 s_0 hlt0 _ hw hc=>⟨L0,ag _,?_⟩) (fun hb0 s_0 hc=>?_)
   ·exact bi (jl [0])
   ·exact ba (jl [0])
  ·refine a_ mixed ak hG kr (fun _=>rfl) (a0.crops.length:Int) rfl gA (fun hb1 k_1 s_1 hlt1 _ hw hc=>⟨L0,ag _,?_⟩) (fun hb1 s_1 hc=>?_)
   ·exact bi (jl [0])
   ·exact ba (jl [0])
  ·refine a_ mixed ak hG kr (fun _=>rfl) (a0.farms.length:Int) rfl gA (fun hb2 k_2 s_2 hlt2 _ hw hc=>⟨L0,ag _,?_⟩) (fun hb2 s_2 hc=>?_)
   ·exact bi (jl [0])
   ·exact ba (jl [0])
  ·refine a_ mixed ak hG kr (fun _=>rfl) (a0.rights.length:Int) rfl gA (fun hb3 k_3 s_3 hlt3 _ hw hc=>⟨L0,ag _,?_⟩) (fun hb3 s_3 hc=>?_)
   ·exact bi (jl [0])
   ·exact ba (jl [0])
  ·refine a_ mixed ak hG kr (fun _=>rfl) (a0.duties.length:Int) rfl gA (fun hb4 k_4 s_4 hlt4 _ hw hc=>⟨L0,ag _,?_⟩) (fun hb4 s_4 hc=>?_)
   ·exact bi (jl [0])
   ·exact ba (jl [0])
 ·unfold ae Tryz.f108;try unfold C7
  try unfold gO
  exact zq1
def bW (d:District):Int:=(bif(dg (((((decide ((d.reaches.length:Int)<=64))&&(decide ((d.farms.length:Int)<=600)))&&(decide ((d.crops.length:Int)<=32)))&&(decide ((d.rights.length:Int)<=256)))&&(decide ((d.duties.length:Int)<=256))) 2)then(bif(gO d 191)then 0 else 191)else 2)
@[go_sem] def sQ:List SV->Option Con:=(pD .district fun d=>(pE (.det True (.v (.int .i64 (bW d))))))
theorem zq16 {p:Prop}(h:p:=by simp only[go_sem,Nat.reduceBEq,Nat.reduceLeDiff,Nat.reduceLT,decide_true,Nat.reduceAdd,Nat.reduceSub,Nat.reduceMul,Int.reduceLE,Int.reduceLT,Int.reduceToNat,Int.reduceNeg,reduceCtorEq,qs,oQ,UX];all_goals exact cl):p:=h
theorem wa:FnOk Tryz.prog 57 sQ:=by
 have hG:ConsOk Tryz.prog (mkG [(107,rO),(108,fun l=>uW (bp [.st .district,.o] l))] []):=ar (cgc uV (cgc (zo.norm [.st .district,.o]) cg0)) cg0;refine UT OF [.o] mixed ak hG (fn:=Tryz.f57) (c0:=qs (ae Tryz.f57)) (c1:=oQ (oQ (ae Tryz.f57))) (i1:=QZ (qs (oQ (ae Tryz.f57)))) (o1:=Of 0 (qs (oQ (ae Tryz.f57)))) (o2:=Of 1 (qs (oQ (ae Tryz.f57)))) (t3:=3) (q:=2) (tys:= #[]) kr kr kr (by refine⟨?_,?_,?_⟩ <;>kernel_rfl) (by refine⟨?_,?_,?_⟩ <;>kernel_rfl) (nbl rfl) kr kr (bk fun d=>(ai (fun hp=>?_)));dsimp only[ax]at hp;refine⟨nbl rfl,L0,L0,1,?_,?_,?_⟩
 ·unfold ae Tryz.f57;simp only[qs,am,and_self,true_and,and_true]
 ·unfold ae Tryz.f57;simp only[oQ];simp only[am,and_self,true_and,and_true]
 ·unfold ae Tryz.f57;try unfold bW
  exact zq16
def aT (n:Int)(most:Int):Bool:=((decide (n>=0))&&(decide (n<=most)))
@[go_sem] def oe:List SV->Option Con:=(pI fun n=>(pI fun most=>(pE (.det True (.v (.bool (aT n most)))))))
theorem rt:FnOk Tryz.prog 129 oe:=by
 have hG:ConsOk Tryz.prog (mkG [] []):=ar cg0 cg0;refine ay [.o] mixed ak hG (fn:=Tryz.f129) (c:=ae Tryz.f129) kr kr kr kr (cI fun n=>(cI fun most=>(ai (fun hp=>?_))));dsimp only[ax]at hp;refine⟨nbl rfl,L0,ag _,?_⟩
 ·unfold ae Tryz.f129;try unfold aT
  exact zq1
def aR (s_:Int)(t:Int):Bool:=((nJ .u64 s_ t) ==0)
@[go_sem] def j8:List SV->Option Con:=(pU fun s_=>(pU fun t=>(pE (.det True (.v (.bool (aR s_ t)))))))
theorem mN:FnOk Tryz.prog 81 j8:=by
 have hG:ConsOk Tryz.prog (mkG [] []):=ar cg0 cg0;refine ay [.o] mixed ak hG (fn:=Tryz.f81) (c:=ae Tryz.f81) kr kr kr kr (Jz fun s_=>(Jz fun t=>(ai (fun hp=>?_))));dsimp only[ax]at hp;refine⟨nbl rfl,L0,ag _,?_⟩
 ·unfold ae Tryz.f81;try unfold aR
  exact zq1
@[go_sem] def il (l_:List Int)(many:Int)(k_0:Nat)(s_0:Int×Int):Unit⊕(Int×Int):=(bif((decide ((l_.getD k_0 0)<=s_0.2)) ||(decide ((l_.getD k_0 0)>=many)))then .inl ()else .inr ((orI .u64 s_0.1 (Af .u64 1 (l_.getD k_0 0))),(l_.getD k_0 0)))
def i7 (l_:List Int)(many:Int)(k_0:Nat)(s_0:Int×Int):Prop:=(((decide ((l_.getD k_0 0)<=s_0.2)) ||(decide ((l_.getD k_0 0)>=many)))=false->0<=(l_.getD k_0 0))
def aq (l_:List Int)(many:Int):Int×Bool:=(match an (il l_ many) l_.length 0 (0,(-1))with| .inl x_0_0=>(0,false) | .inr s_0=>(s_0.1,true))
def gX (l_:List Int)(many:Int):Prop:=(l_.length<=aD->okI (il l_ many) (i7 l_ many) l_.length 0 (0,(-1)))
@[go_sem] def rQ:List SV->Option Con:=(pR .int fun l_=>(pI fun many=>(pE (.det (gX l_ many) (.tup [.v (.int .u64 ((aq l_ many).1)),.v (.bool ((aq l_ many).2))])))))
theorem uX:FnOk Tryz.prog 130 rQ:=by
 have hG:ConsOk Tryz.prog (mkG [] []):=ar cg0 cg0;refine ay [.o,.o] mixed ak hG (fn:=Tryz.f130) (c:=ae Tryz.f130) kr kr kr kr (bC fun l_=>(cI fun many=>(ai (fun hp=>?_))));dsimp only[ax]at hp;unfold gX at hp;refine⟨nbl rfl,(fun id st=>bif Nat.beq id 0 then some (LCR (ρ:=Unit) (σ:=(Int×Int)) 0 [] [] (fun k_0 s_0=>⟨[(1,.v (.int .i64 many)),(4,.v (.int .u64 s_0.1)),(6,.v (.int .i64 s_0.2)),(9,.rs .int l_),(10,.v (.int .i64 (l_.length:Int))),(11,.v (.int .i64 (k_0:Int)))],[]⟩) (il l_ many) (i7 l_ many) l_.length (0,(-1)) (l_.length<=aD) (fun _=>.ret) (fun x_0_0=>⟨[(4,.v (.int .u64 0)),(5,.v (.bool false))],[]⟩) st)else none),?_,?_⟩
 ·unfold ae Tryz.f130;simp only[am,true_and,and_true]
  ·refine a_ mixed ak hG kr (fun _=>rfl) (l_.length:Int) rfl gA (fun hb0 k_0 s_0 hlt0 hq0 hw hc=>⟨L0,ag _,?_⟩) (fun hb0 s_0 hc=>?_)
   ·unfold i7 at hq0;try simp only[hw,Int.toNat_natCast]at hq0
    exact bi (jl [])
   ·exact ba (jl [])
 ·unfold ae Tryz.f130;try unfold aq
  exact zq1
def aW (x:PrecedentsDecided)(y:PrecedentsDecided):Bool:=(((x.winner !=y.winner)&&(aR x.reason y.facts))&&(aR y.reason x.facts))
@[go_sem] def mO:List SV->Option Con:=(pD .precedentsDecided fun x=>(pD .precedentsDecided fun y=>(pE (.det True (.v (.bool (aW x y)))))))
theorem sq:FnOk Tryz.prog 78 mO:=by
 have hG:ConsOk Tryz.prog (mkG [(81,j8)] []):=ar (cgc mN cg0) cg0;refine ay [.o] mixed ak hG (fn:=Tryz.f78) (c:=ae Tryz.f78) kr kr kr kr (bk fun x=>(bk fun y=>(ai (fun hp=>?_))));dsimp only[ax]at hp;refine⟨nbl rfl,L0,ag _,?_⟩
 ·unfold ae Tryz.f78;try unfold aW
  exact zq1
end Go.Sx
end
section
namespace Go.Sx
@[go_sem] theorem Ms {ts:Tis}{G:Cons}{L:uH}{t:List (Nat×SV)}{h:List Ob}{Q:Ex->St->Prop}{id j:Nat}{c:Code}:exec ts G L (.block id (.block j c)) ⟨t,h⟩ Q=exec ts G L (.block j c) ⟨t,h⟩ (Ex.block id Q):=(rfl)
def pXU {α:Type 1}(k:Int->List SV->Option α):List SV->Option α
 | .ep [.v (.int .u64 n)] 0::r=>k n r
 |_=>none
@[go_sem] theorem acv {α:Type 1}{k:Int->List SV->Option α}{n:Int}{r:List SV}:pXU k (.ep [.v (.int .u64 n)] 0::r)=k n r:=(rfl)
theorem K1 {α:Type 1}{G:List SV->α->Prop}{k:Int->List SV->Option α}(h:∀ n l c,k n l=some c->G (.ep [.v (.int .u64 n)] 0::l) c):∀ l c,pXU k l=some c->G l c:=by
 intro l c hc;unfold pXU at hc;split at hc
 ·exact h _ _ _ hc
 ·cases hc
end Go.Sx
end
