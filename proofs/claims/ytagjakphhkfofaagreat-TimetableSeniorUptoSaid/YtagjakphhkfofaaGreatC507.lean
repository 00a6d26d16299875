/- Part of the proof that the law TimetableSenior returns true and leaves its arguments as they were, for all arguments of bulk at most 1048576 (the Upto form). -/
import Derived.Test.YtagjakphhkfofaaGreatC506
import Derived.Test.YtagjakphhkfofaaGreatProg
set_option linter.all false
section
namespace Go.Sx
open Go.Proofs
def ti1 : TI:=⟨1,8,false,[(.v .nilFunc)],[],0,0,false,false,none,none,false,[],none,none,0⟩
def ti2 : TI:=⟨1,8,false,[(.v (.int .i64 0))],[],0,0,false,false,(some .int),(some .i64),false,[],none,none,1⟩
def ti3 : TI:=⟨1,8,false,[(.v (.int .i64 0))],[],0,0,false,false,(some .int),(some .i64),false,[],none,none,1⟩
def ti4 : TI:=⟨1,1,false,[(.v (.bool false))],[],0,0,false,false,(some .bool),none,false,[],none,none,3⟩
def ti5 : TI:=⟨1,1,false,[(.v (.int .u8 0))],[],0,0,false,false,none,(some .u8),false,[],none,none,1⟩
def ti6 : TI:=⟨1,1,false,[(.v (.int .u8 0))],[],0,0,false,false,none,(some .u8),false,[],none,none,1⟩
def ti7 : TI:=⟨4,24,true,[(.v (.int .i64 0)),(.v (.int .i64 0)),(.v (.bool false)),(.v (.int .u8 0))],[(0,(1,false)),(1,(1,false)),(2,(1,false)),(3,(1,false))],0,0,false,false,none,none,false,[1,1,3,1],none,none,0⟩
def ti8 : TI:=⟨4,24,true,[(.v (.int .i64 0)),(.v (.int .i64 0)),(.v (.bool false)),(.v (.int .u8 0))],[(0,(1,false)),(1,(1,false)),(2,(1,false)),(3,(1,false))],0,0,false,false,none,none,false,[1,1,3,1],none,none,0⟩
def ti9 : TI:=⟨1,16,false,[(.v (.string (ByteArray.mk #[])))],[],0,0,false,false,(some .str),none,false,[],none,none,2⟩
def Me : TI:=⟨1,16,false,[(.v (.string (ByteArray.mk #[])))],[],0,0,false,false,none,none,false,[],none,none,2⟩
def Mf : TI:=⟨1,16,false,[(.v (.string (ByteArray.mk #[])))],[],0,0,false,false,none,none,false,[],none,none,2⟩
def Mg : TI:=⟨1,8,false,[(.v (.int .u64 0))],[],0,0,false,false,none,(some .u64),false,[],none,none,1⟩
def Mh : TI:=⟨2,24,true,[(.v (.string (ByteArray.mk #[]))),(.v (.int .u64 0))],[(0,(1,false)),(1,(1,false))],0,0,false,false,none,none,false,[],none,none,0⟩
def Mi : TI:=⟨2,24,true,[(.v (.string (ByteArray.mk #[]))),(.v (.int .u64 0))],[(0,(1,false)),(1,(1,false))],0,0,false,false,none,none,false,[],none,none,0⟩
def Mj : TI:=⟨1,8,false,[(.v (.pointer none))],[],0,0,false,false,none,none,false,[],none,none,0⟩
def Mk : TI:=⟨1,8,false,[(.v (.pointer none))],[],0,0,false,false,none,none,false,[],none,none,0⟩
def Ml : TI:=⟨1,8,false,[(.v (.pointer none))],[],0,0,false,false,none,none,false,[],none,none,0⟩
def Mm : TI:=⟨1,8,true,[(.v (.pointer none))],[(0,(1,false))],0,0,false,false,none,none,false,[],none,none,0⟩
def Mn : TI:=⟨1,8,true,[(.v (.pointer none))],[(0,(1,false))],0,0,false,false,none,none,false,[],none,none,0⟩
def Mo : TI:=⟨1,16,false,[(.v .nilIface)],[],0,0,false,false,none,none,true,[],none,none,0⟩
def Mq : TI:=⟨1,4,false,[(.v (.int .i32 0))],[],0,0,false,false,none,(some .i32),false,[],none,none,1⟩
def Mr : TI:=⟨2,16,true,[(.v (.int .i64 0)),(.v (.int .i64 0))],[(0,(1,false)),(1,(1,false))],0,0,false,false,none,none,false,[1,1],none,none,0⟩
def Ms : TI:=⟨2,16,true,[(.v (.int .i64 0)),(.v (.int .i64 0))],[(0,(1,false)),(1,(1,false))],0,0,false,false,(some .tank),none,false,[1,1],none,none,0⟩
def Mt : TI:=⟨1,24,false,[(.v (.slice none 0 0))],[],93,0,true,false,none,none,false,[],none,none,0⟩
def Mu : TI:=⟨1,24,false,[(.v (.slice none 0 0))],[],95,0,true,false,none,none,false,[],none,none,0⟩
def Mv : TI:=⟨1,24,false,[(.v (.slice none 0 0))],[],174,0,true,false,none,none,false,[],none,none,0⟩
def Mw : TI:=⟨1,24,false,[(.v (.slice none 0 0))],[],84,0,true,false,none,none,false,[],none,none,0⟩
def Mx : TI:=⟨1,24,false,[(.v (.slice none 0 0))],[],178,0,true,false,none,none,false,[],none,none,0⟩
def My : TI:=⟨1,24,false,[(.v (.slice none 0 0))],[],252,0,true,false,none,none,false,[],none,none,0⟩
def Mz : TI:=⟨10,184,true,[(.v (.string (ByteArray.mk #[]))),(.v (.int .i64 0)),(.v (.int .i64 0)),(.v (.int .i64 0)),(.v (.slice none 0 0)),(.v (.slice none 0 0)),(.v (.slice none 0 0)),(.v (.slice none 0 0)),(.v (.slice none 0 0)),(.v (.slice none 0 0))],[(0,(1,false)),(1,(1,false)),(2,(2,true)),(4,(1,false)),(5,(1,false)),(6,(1,false)),(7,(1,false)),(8,(1,false)),(9,(1,false))],0,0,false,false,none,none,false,[],none,none,0⟩
def MA : TI:=⟨10,184,true,[(.v (.string (ByteArray.mk #[]))),(.v (.int .i64 0)),(.v (.int .i64 0)),(.v (.int .i64 0)),(.v (.slice none 0 0)),(.v (.slice none 0 0)),(.v (.slice none 0 0)),(.v (.slice none 0 0)),(.v (.slice none 0 0)),(.v (.slice none 0 0))],[(0,(1,false)),(1,(1,false)),(2,(2,true)),(4,(1,false)),(5,(1,false)),(6,(1,false)),(7,(1,false)),(8,(1,false)),(9,(1,false))],0,0,false,false,(some .district),none,false,[],none,none,0⟩
def MB : TI:=⟨1,24,false,[(.v (.slice none 0 0))],[],49,0,true,false,(some .claims),none,false,[],none,none,0⟩
def MC : TI:=⟨1,8,false,[(.v .nilFunc)],[],0,0,false,false,none,none,false,[],none,none,0⟩
def MD : TI:=⟨1,8,false,[(.v .nilFunc)],[],0,0,false,false,none,none,false,[],none,none,0⟩
def ME : TI:=⟨1,24,false,[(.v (.slice none 0 0))],[],54,0,true,false,none,none,false,[],none,none,0⟩
def MF : TI:=⟨1,8,false,[(.v (.int .i64 0))],[],0,0,false,false,(some .int),(some .i64),false,[],none,none,1⟩
def MG : TI:=⟨1,8,false,[(.v .nilFunc)],[],0,0,false,false,none,none,false,[],none,none,0⟩
def MH : TI:=⟨5,40,true,[(.v (.int .i64 0)),(.v (.int .i64 0)),(.v (.int .i64 0)),(.v (.int .i64 0)),(.v (.int .i64 0))],[(0,(1,false)),(1,(1,false)),(2,(1,false)),(3,(1,false)),(4,(1,false))],0,0,false,false,none,none,false,[1,1,1,1,1],none,none,0⟩
def MI : TI:=⟨5,40,true,[(.v (.int .i64 0)),(.v (.int .i64 0)),(.v (.int .i64 0)),(.v (.int .i64 0)),(.v (.int .i64 0))],[(0,(1,false)),(1,(1,false)),(2,(1,false)),(3,(1,false)),(4,(1,false))],0,0,false,false,(some .fault),none,false,[1,1,1,1,1],none,none,0⟩
def MJ : TI:=⟨1,8,false,[(.v .nilFunc)],[],0,0,false,false,none,none,false,[],none,none,0⟩
def MK : TI:=⟨1,8,false,[(.v .nilFunc)],[],0,0,false,false,none,none,false,[],none,none,0⟩
def ML : TI:=⟨1,8,false,[(.v .nilFunc)],[],0,0,false,false,none,none,false,[],none,none,0⟩
def MM : TI:=⟨1,8,false,[(.v .nilFunc)],[],0,0,false,false,none,none,false,[],none,none,0⟩
def MN : TI:=⟨1,2,false,[(.v (.int .u16 0))],[],0,0,false,false,none,(some .u16),false,[],none,none,1⟩
def MO : TI:=⟨5,40,true,[(.v (.int .i64 0)),(.v (.int .i64 0)),(.v (.int .i64 0)),(.v (.int .i64 0)),(.v (.int .i64 0))],[(0,(1,false)),(1,(1,false)),(2,(1,false)),(3,(1,false)),(4,(1,false))],0,0,false,false,none,none,false,[1,1,1,1,1],none,none,0⟩
def MP : TI:=⟨5,40,true,[(.v (.int .i64 0)),(.v (.int .i64 0)),(.v (.int .i64 0)),(.v (.int .i64 0)),(.v (.int .i64 0))],[(0,(1,false)),(1,(1,false)),(2,(1,false)),(3,(1,false)),(4,(1,false))],0,0,false,false,(some .claim),none,false,[1,1,1,1,1],none,none,0⟩
def MQ : TI:=⟨1,8,false,[(.v (.map none))],[],3,0,false,false,none,none,false,[],(some .acequialaw27Key),(some .int),0⟩
def MR : TI:=⟨1,8,false,[(.v .nilFunc)],[],0,0,false,false,none,none,false,[],none,none,0⟩
def MS : TI:=⟨1,24,false,[(.v (.slice none 0 0))],[],32,0,true,false,none,none,false,[],none,none,0⟩
def MT : TI:=⟨4,32,true,[(.v (.int .i64 0)),(.v (.int .i64 0)),(.v (.int .i64 0)),(.v (.bool false))],[(0,(1,false)),(1,(1,false)),(2,(1,false)),(3,(1,false))],0,0,false,false,none,none,false,[1,1,1,3],none,none,0⟩
def MU : TI:=⟨4,32,true,[(.v (.int .i64 0)),(.v (.int .i64 0)),(.v (.int .i64 0)),(.v (.bool false))],[(0,(1,false)),(1,(1,false)),(2,(1,false)),(3,(1,false))],0,0,false,false,(some .order),none,false,[1,1,1,3],none,none,0⟩
def MV : TI:=⟨3,24,true,[(.v (.bool false)),(.v (.int .i64 0)),(.v (.int .i64 0))],[(0,(1,false)),(1,(1,false)),(2,(1,false))],0,0,false,false,none,none,false,[3,1,1],none,none,0⟩
def MW : TI:=⟨3,24,true,[(.v (.bool false)),(.v (.int .i64 0)),(.v (.int .i64 0))],[(0,(1,false)),(1,(1,false)),(2,(1,false))],0,0,false,false,(some .acequialaw27Key),none,false,[3,1,1],none,none,0⟩
def MX : TI:=⟨1,8,false,[(.v .nilFunc)],[],0,0,false,false,none,none,false,[],none,none,0⟩
def MY : TI:=⟨1,8,false,[(.v .nilFunc)],[],0,0,false,false,none,none,false,[],none,none,0⟩
def MZ : TI:=⟨1,8,false,[(.v .nilFunc)],[],0,0,false,false,none,none,false,[],none,none,0⟩
def M0 : TI:=⟨1,8,false,[(.v .nilFunc)],[],0,0,false,false,none,none,false,[],none,none,0⟩
def M1 : TI:=⟨1,8,false,[(.v .nilFunc)],[],0,0,false,false,none,none,false,[],none,none,0⟩
def M2 : TI:=⟨1,8,false,[(.v .nilFunc)],[],0,0,false,false,none,none,false,[],none,none,0⟩
def M3 : TI:=⟨1,8,false,[(.v .nilFunc)],[],0,0,false,false,none,none,false,[],none,none,0⟩
def M4 : TI:=⟨1,8,false,[(.v .nilFunc)],[],0,0,false,false,none,none,false,[],none,none,0⟩
def M5 : TI:=⟨1,8,false,[(.v (.map none))],[],3,0,false,false,none,none,false,[],(some .acequialaw28Place),(some .int),0⟩
def M6 : TI:=⟨3,24,true,[(.v (.int .i64 0)),(.v (.int .i64 0)),(.v (.bool false))],[(0,(1,false)),(1,(1,false)),(2,(1,false))],0,0,false,false,none,none,false,[1,1,3],none,none,0⟩
def M7 : TI:=⟨3,24,true,[(.v (.int .i64 0)),(.v (.int .i64 0)),(.v (.bool false))],[(0,(1,false)),(1,(1,false)),(2,(1,false))],0,0,false,false,(some .acequialaw28Place),none,false,[1,1,3],none,none,0⟩
def M8 : TI:=⟨1,8,false,[(.v .nilFunc)],[],0,0,false,false,none,none,false,[],none,none,0⟩
def M9 : TI:=⟨1,8,false,[(.v .nilFunc)],[],0,0,false,false,none,none,false,[],none,none,0⟩
def M_ : TI:=⟨1,8,false,[(.v .nilFunc)],[],0,0,false,false,none,none,false,[],none,none,0⟩
def Na : TI:=⟨1,8,false,[(.v .nilFunc)],[],0,0,false,false,none,none,false,[],none,none,0⟩
def Nb : TI:=⟨1,8,false,[(.v .nilFunc)],[],0,0,false,false,none,none,false,[],none,none,0⟩
def Nc : TI:=⟨1,8,false,[(.v .nilFunc)],[],0,0,false,false,none,none,false,[],none,none,0⟩
def Nd : TI:=⟨1,8,false,[(.v .nilFunc)],[],0,0,false,false,none,none,false,[],none,none,0⟩
def Nf : TI:=⟨1,8,false,[(.v .nilFunc)],[],0,0,false,false,none,none,false,[],none,none,0⟩
def Ng : TI:=⟨1,8,false,[(.v .nilFunc)],[],0,0,false,false,none,none,false,[],none,none,0⟩
def Nh : TI:=⟨1,8,false,[(.v .nilFunc)],[],0,0,false,false,none,none,false,[],none,none,0⟩
def Ni : TI:=⟨1,8,false,[(.v .nilFunc)],[],0,0,false,false,none,none,false,[],none,none,0⟩
def Nj : TI:=⟨10,88,true,[(.v (.string (ByteArray.mk #[]))),(.v (.int .i64 0)),(.v (.int .i64 0)),(.v (.int .i64 0)),(.v (.int .i64 0)),(.v (.int .i64 0)),(.v (.int .i64 0)),(.v (.int .i64 0)),(.v (.int .i64 0)),(.v (.int .i64 0))],[(0,(1,false)),(1,(1,false)),(2,(1,false)),(3,(1,false)),(4,(1,false)),(5,(1,false)),(6,(1,false)),(7,(1,false)),(8,(1,false)),(9,(1,false))],0,0,false,false,none,none,false,[2,1,1,1,1,1,1,1,1,1],none,none,0⟩
def Nk : TI:=⟨10,88,true,[(.v (.string (ByteArray.mk #[]))),(.v (.int .i64 0)),(.v (.int .i64 0)),(.v (.int .i64 0)),(.v (.int .i64 0)),(.v (.int .i64 0)),(.v (.int .i64 0)),(.v (.int .i64 0)),(.v (.int .i64 0)),(.v (.int .i64 0))],[(0,(1,false)),(1,(1,false)),(2,(1,false)),(3,(1,false)),(4,(1,false)),(5,(1,false)),(6,(1,false)),(7,(1,false)),(8,(1,false)),(9,(1,false))],0,0,false,false,(some .right),none,false,[2,1,1,1,1,1,1,1,1,1],none,none,0⟩
def Nl : TI:=⟨1,8,false,[(.v .nilFunc)],[],0,0,false,false,none,none,false,[],none,none,0⟩
def Nm : TI:=⟨1,8,false,[(.v .nilFunc)],[],0,0,false,false,none,none,false,[],none,none,0⟩
def Nn : TI:=⟨2,16,true,[(.v (.int .i64 0)),(.v (.int .i64 0))],[(0,(1,false)),(1,(1,false))],0,0,false,false,none,none,false,[1,1],none,none,0⟩
def No : TI:=⟨2,16,true,[(.v (.int .i64 0)),(.v (.int .i64 0))],[(0,(1,false)),(1,(1,false))],0,0,false,false,(some .range),none,false,[1,1],none,none,0⟩
def Np : TI:=⟨2,16,true,[(.v (.int .i64 0)),(.v (.int .i64 0))],[(0,(1,false)),(1,(1,false))],0,0,false,false,none,none,false,[1,1],none,none,0⟩
def Nq : TI:=⟨2,16,true,[(.v (.int .i64 0)),(.v (.int .i64 0))],[(0,(1,false)),(1,(1,false))],0,0,false,false,(some .ratio),none,false,[1,1],none,none,0⟩
def Nr : TI:=⟨4,32,true,[(.v (.int .i64 0)),(.v (.int .i64 0)),(.v (.int .i64 0)),(.v (.int .i64 0))],[],90,2,false,true,(some .ratio2),none,false,[],none,none,0⟩
def Ns : TI:=⟨12,104,true,[(.v (.string (ByteArray.mk #[]))),(.v (.int .i64 0)),(.v (.int .i64 0)),(.v (.int .i64 0)),(.v (.int .i64 0)),(.v (.int .i64 0)),(.v (.int .i64 0)),(.v (.int .i64 0)),(.v (.int .i64 0)),(.v (.int .i64 0)),(.v (.int .i64 0)),(.v (.int .i64 0))],[(0,(1,false)),(1,(1,false)),(2,(1,false)),(3,(1,false)),(4,(1,false)),(5,(1,false)),(6,(2,true)),(8,(4,true))],0,0,false,false,none,none,false,[],none,none,0⟩
def Nt : TI:=⟨12,104,true,[(.v (.string (ByteArray.mk #[]))),(.v (.int .i64 0)),(.v (.int .i64 0)),(.v (.int .i64 0)),(.v (.int .i64 0)),(.v (.int .i64 0)),(.v (.int .i64 0)),(.v (.int .i64 0)),(.v (.int .i64 0)),(.v (.int .i64 0)),(.v (.int .i64 0)),(.v (.int .i64 0))],[(0,(1,false)),(1,(1,false)),(2,(1,false)),(3,(1,false)),(4,(1,false)),(5,(1,false)),(6,(2,true)),(8,(4,true))],0,0,false,false,(some .reach),none,false,[],none,none,0⟩
def Nu : TI:=⟨4,40,true,[(.v (.string (ByteArray.mk #[]))),(.v (.int .i64 0)),(.v (.int .i64 0)),(.v (.int .i64 0))],[(0,(1,false)),(1,(1,false)),(2,(1,false)),(3,(1,false))],0,0,false,false,none,none,false,[2,1,1,1],none,none,0⟩
def Nv : TI:=⟨4,40,true,[(.v (.string (ByteArray.mk #[]))),(.v (.int .i64 0)),(.v (.int .i64 0)),(.v (.int .i64 0))],[(0,(1,false)),(1,(1,false)),(2,(1,false)),(3,(1,false))],0,0,false,false,(some .farm),none,false,[2,1,1,1],none,none,0⟩
def Nw : TI:=⟨1,8,false,[(.v .nilFunc)],[],0,0,false,false,none,none,false,[],none,none,0⟩
def Nx : TI:=⟨1,8,false,[(.v .nilFunc)],[],0,0,false,false,none,none,false,[],none,none,0⟩
def Ny : TI:=⟨1,24,false,[(.v (.slice none 0 0))],[],40,0,true,false,none,none,false,[],none,none,0⟩
def DE : TI:=⟨1,8,false,[(.v .nilFunc)],[],0,0,false,false,none,none,false,[],none,none,0⟩
def DF : TI:=⟨1,8,false,[(.v .nilFunc)],[],0,0,false,false,none,none,false,[],none,none,0⟩
def DG : TI:=⟨1,8,false,[(.v .nilFunc)],[],0,0,false,false,none,none,false,[],none,none,0⟩
def DH : TI:=⟨1,8,false,[(.v .nilFunc)],[],0,0,false,false,none,none,false,[],none,none,0⟩
def DI : TI:=⟨1,8,false,[(.v .nilFunc)],[],0,0,false,false,none,none,false,[],none,none,0⟩
def DJ : TI:=⟨1,8,false,[(.v .nilFunc)],[],0,0,false,false,none,none,false,[],none,none,0⟩
def DK : TI:=⟨1,8,false,[(.v .nilFunc)],[],0,0,false,false,none,none,false,[],none,none,0⟩
def DL : TI:=⟨1,8,false,[(.v .nilFunc)],[],0,0,false,false,none,none,false,[],none,none,0⟩
def DM : TI:=⟨1,8,false,[(.v .nilFunc)],[],0,0,false,false,none,none,false,[],none,none,0⟩
def DN : TI:=⟨1,8,false,[(.v .nilFunc)],[],0,0,false,false,none,none,false,[],none,none,0⟩
def DO : TI:=⟨1,8,false,[(.v .nilFunc)],[],0,0,false,false,none,none,false,[],none,none,0⟩
def DP : TI:=⟨1,8,false,[(.v .nilFunc)],[],0,0,false,false,none,none,false,[],none,none,0⟩
def DQ : TI:=⟨1,8,false,[(.v .nilFunc)],[],0,0,false,false,none,none,false,[],none,none,0⟩
def DR : TI:=⟨1,8,false,[(.v .nilFunc)],[],0,0,false,false,none,none,false,[],none,none,0⟩
def DS : TI:=⟨1,8,false,[(.v .nilFunc)],[],0,0,false,false,none,none,false,[],none,none,0⟩
def DT : TI:=⟨1,8,false,[(.v .nilFunc)],[],0,0,false,false,none,none,false,[],none,none,0⟩
def DU : TI:=⟨1,8,false,[(.v .nilFunc)],[],0,0,false,false,none,none,false,[],none,none,0⟩
def DV : TI:=⟨1,8,false,[(.v .nilFunc)],[],0,0,false,false,none,none,false,[],none,none,0⟩
def DW : TI:=⟨1,8,false,[(.v .nilFunc)],[],0,0,false,false,none,none,false,[],none,none,0⟩
def DX : TI:=⟨1,8,false,[(.v .nilFunc)],[],0,0,false,false,none,none,false,[],none,none,0⟩
def DY : TI:=⟨1,8,false,[(.v .nilFunc)],[],0,0,false,false,none,none,false,[],none,none,0⟩
def DZ : TI:=⟨1,8,false,[(.v .nilFunc)],[],0,0,false,false,none,none,false,[],none,none,0⟩
def D0 : TI:=⟨1,8,false,[(.v .nilFunc)],[],0,0,false,false,none,none,false,[],none,none,0⟩
def D1 : TI:=⟨1,8,false,[(.v .nilFunc)],[],0,0,false,false,none,none,false,[],none,none,0⟩
def D2 : TI:=⟨1,8,false,[(.v .nilFunc)],[],0,0,false,false,none,none,false,[],none,none,0⟩
def D3 : TI:=⟨1,8,false,[(.v .nilFunc)],[],0,0,false,false,none,none,false,[],none,none,0⟩
def D4 : TI:=⟨1,8,false,[(.v .nilFunc)],[],0,0,false,false,none,none,false,[],none,none,0⟩
def D5 : TI:=⟨1,8,false,[(.v .nilFunc)],[],0,0,false,false,none,none,false,[],none,none,0⟩
def D6 : TI:=⟨1,8,false,[(.v (.map none))],[],3,0,false,false,none,none,false,[],(some .certifyPlace),(some .int),0⟩
def D7 : TI:=⟨1,24,false,[(.v (.slice none 0 0))],[],158,0,true,false,none,none,false,[],none,none,0⟩
def D8 : TI:=⟨14,264,true,[(.v (.string (ByteArray.mk #[]))),(.v (.int .i64 0)),(.v (.int .i64 0)),(.v (.int .i64 0)),(.v (.slice none 0 0)),(.v (.slice none 0 0)),(.v (.slice none 0 0)),(.v (.slice none 0 0)),(.v (.slice none 0 0)),(.v (.slice none 0 0)),(.v (.slice none 0 0)),(.v (.map none)),(.v (.slice none 0 0)),(.v (.slice none 0 0))],[(0,(10,true)),(10,(1,false)),(11,(1,false)),(12,(1,false)),(13,(1,false))],0,0,false,false,none,none,false,[],none,none,0⟩
def D9 : TI:=⟨14,264,true,[(.v (.string (ByteArray.mk #[]))),(.v (.int .i64 0)),(.v (.int .i64 0)),(.v (.int .i64 0)),(.v (.slice none 0 0)),(.v (.slice none 0 0)),(.v (.slice none 0 0)),(.v (.slice none 0 0)),(.v (.slice none 0 0)),(.v (.slice none 0 0)),(.v (.slice none 0 0)),(.v (.map none)),(.v (.slice none 0 0)),(.v (.slice none 0 0))],[(0,(10,true)),(10,(1,false)),(11,(1,false)),(12,(1,false)),(13,(1,false))],0,0,false,false,(some .certifyTable),none,false,[],none,none,0⟩
def D_ : TI:=⟨1,8,false,[(.v .nilFunc)],[],0,0,false,false,none,none,false,[],none,none,0⟩
def Ea : TI:=⟨1,8,false,[(.v .nilFunc)],[],0,0,false,false,none,none,false,[],none,none,0⟩
def Eb : TI:=⟨1,8,false,[(.v .nilFunc)],[],0,0,false,false,none,none,false,[],none,none,0⟩
def Ec : TI:=⟨1,8,false,[(.v .nilFunc)],[],0,0,false,false,none,none,false,[],none,none,0⟩
def Ed : TI:=⟨1,24,false,[(.v (.slice none 0 0))],[],108,0,true,false,none,none,false,[],none,none,0⟩
def Ee : TI:=⟨1,8,false,[(.v .nilFunc)],[],0,0,false,false,none,none,false,[],none,none,0⟩
def Ef : TI:=⟨1,8,false,[(.v (.map none))],[],3,0,false,false,none,none,false,[],(some .int2),(some .int),0⟩
def Eg : TI:=⟨2,16,true,[(.v (.int .i64 0)),(.v (.int .i64 0))],[],3,2,false,true,(some .int2),none,false,[1,1],none,none,0⟩
def Eh : TI:=⟨1,8,false,[(.v .nilFunc)],[],0,0,false,false,none,none,false,[],none,none,0⟩
def Ei : TI:=⟨1,8,false,[(.v .nilFunc)],[],0,0,false,false,none,none,false,[],none,none,0⟩
def Ej : TI:=⟨1,8,false,[(.v .nilFunc)],[],0,0,false,false,none,none,false,[],none,none,0⟩
def Ek : TI:=⟨1,8,false,[(.v .nilFunc)],[],0,0,false,false,none,none,false,[],none,none,0⟩
def El : TI:=⟨1,8,false,[(.v .nilFunc)],[],0,0,false,false,none,none,false,[],none,none,0⟩
def Em : TI:=⟨1,8,false,[(.v .nilFunc)],[],0,0,false,false,none,none,false,[],none,none,0⟩
def En : TI:=⟨1,8,false,[(.v (.map none))],[],3,0,false,false,none,none,false,[],(some .timetableSlot),(some .int),0⟩
def Eo : TI:=⟨1,8,false,[(.v (.map none))],[],4,0,false,false,none,none,false,[],(some .timetableSlot),(some .bool),0⟩
def Ep : TI:=⟨2,16,true,[(.v (.int .i64 0)),(.v (.int .i64 0))],[(0,(1,false)),(1,(1,false))],0,0,false,false,none,none,false,[1,1],none,none,0⟩
def Er : TI:=⟨2,16,true,[(.v (.int .i64 0)),(.v (.int .i64 0))],[(0,(1,false)),(1,(1,false))],0,0,false,false,(some .timetableSlot),none,false,[1,1],none,none,0⟩
def Es : TI:=⟨1,8,false,[(.v .nilFunc)],[],0,0,false,false,none,none,false,[],none,none,0⟩
def Et : TI:=⟨1,8,false,[(.v .nilFunc)],[],0,0,false,false,none,none,false,[],none,none,0⟩
def Eu : TI:=⟨1,24,false,[(.v (.slice none 0 0))],[],3,0,true,false,(some .ints),none,false,[],none,none,0⟩
def Ev : TI:=⟨1,8,false,[(.v .nilFunc)],[],0,0,false,false,none,none,false,[],none,none,0⟩
def Ew : TI:=⟨1,8,false,[(.v .nilFunc)],[],0,0,false,false,none,none,false,[],none,none,0⟩
def Ey : TI:=⟨1,8,false,[(.v .nilFunc)],[],0,0,false,false,none,none,false,[],none,none,0⟩
def Ez : TI:=⟨1,8,false,[(.v .nilFunc)],[],0,0,false,false,none,none,false,[],none,none,0⟩
def EA : TI:=⟨1,8,false,[(.v .nilFunc)],[],0,0,false,false,none,none,false,[],none,none,0⟩
def EB : TI:=⟨1,8,false,[(.v .nilFunc)],[],0,0,false,false,none,none,false,[],none,none,0⟩
def EC : TI:=⟨1,8,false,[(.v .nilFunc)],[],0,0,false,false,none,none,false,[],none,none,0⟩
def ED : TI:=⟨1,8,false,[(.v (.int .u64 0))],[],0,0,false,false,none,(some .u64),false,[],none,none,1⟩
def EE : TI:=⟨1,8,false,[(.v .nilFunc)],[],0,0,false,false,none,none,false,[],none,none,0⟩
def EF : TI:=⟨1,8,false,[(.v .nilFunc)],[],0,0,false,false,none,none,false,[],none,none,0⟩
def EG : TI:=⟨1,8,false,[(.v (.int .i64 0))],[],0,0,false,false,(some .int),(some .i64),false,[],none,none,1⟩
def EH : TI:=⟨1,8,false,[(.v .nilFunc)],[],0,0,false,false,none,none,false,[],none,none,0⟩
def EI : TI:=⟨1,8,false,[(.v .nilFunc)],[],0,0,false,false,none,none,false,[],none,none,0⟩
def EJ : TI:=⟨2,24,true,[(.v (.string (ByteArray.mk #[]))),(.v (.int .i64 0))],[(0,(1,false)),(1,(1,false))],0,0,false,false,none,none,false,[2,1],none,none,0⟩
def EK : TI:=⟨2,24,true,[(.v (.string (ByteArray.mk #[]))),(.v (.int .i64 0))],[(0,(1,false)),(1,(1,false))],0,0,false,false,(some .crop),none,false,[2,1],none,none,0⟩
def EL : TI:=⟨1,8,false,[(.v .nilFunc)],[],0,0,false,false,none,none,false,[],none,none,0⟩
def EM : TI:=⟨1,8,false,[(.v .nilFunc)],[],0,0,false,false,none,none,false,[],none,none,0⟩
def EN : TI:=⟨4,40,true,[(.v (.string (ByteArray.mk #[]))),(.v (.int .i64 0)),(.v (.int .i64 0)),(.v (.int .i64 0))],[(0,(1,false)),(1,(1,false)),(2,(1,false)),(3,(1,false))],0,0,false,false,none,none,false,[2,1,1,1],none,none,0⟩
def EO : TI:=⟨4,40,true,[(.v (.string (ByteArray.mk #[]))),(.v (.int .i64 0)),(.v (.int .i64 0)),(.v (.int .i64 0))],[(0,(1,false)),(1,(1,false)),(2,(1,false)),(3,(1,false))],0,0,false,false,(some .duty),none,false,[2,1,1,1],none,none,0⟩
def EP : TI:=⟨1,24,false,[(.v (.slice none 0 0))],[],127,0,true,false,none,none,false,[],none,none,0⟩
def EQ : TI:=⟨1,8,false,[(.v .nilFunc)],[],0,0,false,false,none,none,false,[],none,none,0⟩
def ER : TI:=⟨1,8,false,[(.v .nilFunc)],[],0,0,false,false,none,none,false,[],none,none,0⟩
def ES : TI:=⟨1,8,false,[(.v .nilFunc)],[],0,0,false,false,none,none,false,[],none,none,0⟩
def ET : TI:=⟨1,8,false,[(.v .nilFunc)],[],0,0,false,false,none,none,false,[],none,none,0⟩
def EU : TI:=⟨3,24,true,[(.v (.int .i64 0)),(.v (.int .i64 0)),(.v (.bool false))],[(0,(1,false)),(1,(1,false)),(2,(1,false))],0,0,false,false,none,none,false,[1,1,3],none,none,0⟩
def EV : TI:=⟨3,24,true,[(.v (.int .i64 0)),(.v (.int .i64 0)),(.v (.bool false))],[(0,(1,false)),(1,(1,false)),(2,(1,false))],0,0,false,false,(some .certifyPlace),none,false,[1,1,3],none,none,0⟩
def EW : TI:=⟨1,8,false,[(.v .nilFunc)],[],0,0,false,false,none,none,false,[],none,none,0⟩
def EX : TI:=⟨1,8,false,[(.v .nilFunc)],[],0,0,false,false,none,none,false,[],none,none,0⟩
def EY : TI:=⟨1,8,false,[(.v .nilFunc)],[],0,0,false,false,none,none,false,[],none,none,0⟩
def EZ : TI:=⟨1,8,false,[(.v .nilFunc)],[],0,0,false,false,none,none,false,[],none,none,0⟩
def E0 : TI:=⟨1,8,false,[(.v .nilFunc)],[],0,0,false,false,none,none,false,[],none,none,0⟩
def E1 : TI:=⟨1,8,false,[(.v .nilFunc)],[],0,0,false,false,none,none,false,[],none,none,0⟩
def E2 : TI:=⟨1,8,false,[(.v .nilFunc)],[],0,0,false,false,none,none,false,[],none,none,0⟩
def E3 : TI:=⟨1,8,false,[(.v .nilFunc)],[],0,0,false,false,none,none,false,[],none,none,0⟩
def E4 : TI:=⟨1,8,false,[(.v (.int .i64 0))],[],0,0,false,false,none,(some .i64),false,[],none,none,1⟩
def E5 : TI:=⟨1,8,false,[(.v .nilFunc)],[],0,0,false,false,none,none,false,[],none,none,0⟩
def E6 : TI:=⟨1,8,false,[(.v .nilFunc)],[],0,0,false,false,none,none,false,[],none,none,0⟩
def E7 : TI:=⟨1,8,false,[(.v .nilFunc)],[],0,0,false,false,none,none,false,[],none,none,0⟩
def ts : Tis:=fun t=> (bif Nat.ble t 99 then (bif Nat.ble t 48 then (bif Nat.ble t 22 then (bif Nat.ble t 11 then (bif Nat.ble t 5 then (bif Nat.ble t 2 then (bif Nat.ble t 1 then (bif Nat.beq t 1 then some ti1 else none) else (bif Nat.beq t 2 then some ti2 else none)) else (bif Nat.ble t 3 then (bif Nat.beq t 3 then some ti3 else none) else (bif Nat.ble t 4 then (bif Nat.beq t 4 then some ti4 else none) else (bif Nat.beq t 5 then some ti5 else none)))) else (bif Nat.ble t 8 then (bif Nat.ble t 6 then (bif Nat.beq t 6 then some ti6 else none) else (bif Nat.ble t 7 then (bif Nat.beq t 7 then some ti7 else none) else (bif Nat.beq t 8 then some ti8 else none))) else (bif Nat.ble t 9 then (bif Nat.beq t 9 then some ti9 else none) else (bif Nat.ble t 10 then (bif Nat.beq t 10 then some Me else none) else (bif Nat.beq t 11 then some Mf else none))))) else (bif Nat.ble t 16 then (bif Nat.ble t 13 then (bif Nat.ble t 12 then (bif Nat.beq t 12 then some Mg else none) else (bif Nat.beq t 13 then some Mh else none)) else (bif Nat.ble t 14 then (bif Nat.beq t 14 then some Mi else none) else (bif Nat.ble t 15 then (bif Nat.beq t 15 then some Mj else none) else (bif Nat.beq t 16 then some Mk else none)))) else (bif Nat.ble t 19 then (bif Nat.ble t 17 then (bif Nat.beq t 17 then some Ml else none) else (bif Nat.ble t 18 then (bif Nat.beq t 18 then some Mm else none) else (bif Nat.beq t 19 then some Mn else none))) else (bif Nat.ble t 20 then (bif Nat.beq t 20 then some Mo else none) else (bif Nat.ble t 21 then (bif Nat.beq t 21 then some Mq else none) else (bif Nat.beq t 22 then some Mr else none)))))) else (bif Nat.ble t 33 then (bif Nat.ble t 27 then (bif Nat.ble t 24 then (bif Nat.ble t 23 then (bif Nat.beq t 23 then some Ms else none) else (bif Nat.beq t 24 then some Mt else none)) else (bif Nat.ble t 25 then (bif Nat.beq t 25 then some Mu else none) else (bif Nat.ble t 26 then (bif Nat.beq t 26 then some Mv else none) else (bif Nat.beq t 27 then some Mw else none)))) else (bif Nat.ble t 30 then (bif Nat.ble t 28 then (bif Nat.beq t 28 then some Mx else none) else (bif Nat.ble t 29 then (bif Nat.beq t 29 then some My else none) else (bif Nat.beq t 30 then some Mz else none))) else (bif Nat.ble t 31 then (bif Nat.beq t 31 then some MA else none) else (bif Nat.ble t 32 then (bif Nat.beq t 32 then some MB else none) else (bif Nat.beq t 33 then some MC else none))))) else (bif Nat.ble t 40 then (bif Nat.ble t 36 then (bif Nat.ble t 34 then (bif Nat.beq t 34 then some MD else none) else (bif Nat.ble t 35 then (bif Nat.beq t 35 then some ME else none) else (bif Nat.beq t 36 then some MF else none))) else (bif Nat.ble t 38 then (bif Nat.beq t 38 then some MG else none) else (bif Nat.ble t 39 then (bif Nat.beq t 39 then some MH else none) else (bif Nat.beq t 40 then some MI else none)))) else (bif Nat.ble t 45 then (bif Nat.ble t 42 then (bif Nat.beq t 42 then some MJ else none) else (bif Nat.ble t 43 then (bif Nat.beq t 43 then some MK else none) else (bif Nat.beq t 45 then some ML else none))) else (bif Nat.ble t 46 then (bif Nat.beq t 46 then some MM else none) else (bif Nat.ble t 47 then (bif Nat.beq t 47 then some MN else none) else (bif Nat.beq t 48 then some MO else none))))))) else (bif Nat.ble t 75 then (bif Nat.ble t 59 then (bif Nat.ble t 53 then (bif Nat.ble t 50 then (bif Nat.ble t 49 then (bif Nat.beq t 49 then some MP else none) else (bif Nat.beq t 50 then some MQ else none)) else (bif Nat.ble t 51 then (bif Nat.beq t 51 then some MR else none) else (bif Nat.ble t 52 then (bif Nat.beq t 52 then some MS else none) else (bif Nat.beq t 53 then some MT else none)))) else (bif Nat.ble t 56 then (bif Nat.ble t 54 then (bif Nat.beq t 54 then some MU else none) else (bif Nat.ble t 55 then (bif Nat.beq t 55 then some MV else none) else (bif Nat.beq t 56 then some MW else none))) else (bif Nat.ble t 57 then (bif Nat.beq t 57 then some MX else none) else (bif Nat.ble t 58 then (bif Nat.beq t 58 then some MY else none) else (bif Nat.beq t 59 then some MZ else none))))) else (bif Nat.ble t 66 then (bif Nat.ble t 62 then (bif Nat.ble t 60 then (bif Nat.beq t 60 then some M0 else none) else (bif Nat.ble t 61 then (bif Nat.beq t 61 then some M1 else none) else (bif Nat.beq t 62 then some M2 else none))) else (bif Nat.ble t 63 then (bif Nat.beq t 63 then some M3 else none) else (bif Nat.ble t 65 then (bif Nat.beq t 65 then some M4 else none) else (bif Nat.beq t 66 then some M5 else none)))) else (bif Nat.ble t 69 then (bif Nat.ble t 67 then (bif Nat.beq t 67 then some M6 else none) else (bif Nat.ble t 68 then (bif Nat.beq t 68 then some M7 else none) else (bif Nat.beq t 69 then some M8 else none))) else (bif Nat.ble t 71 then (bif Nat.beq t 71 then some M9 else none) else (bif Nat.ble t 73 then (bif Nat.beq t 73 then some M_ else none) else (bif Nat.beq t 75 then some Na else none)))))) else (bif Nat.ble t 86 then (bif Nat.ble t 80 then (bif Nat.ble t 77 then (bif Nat.ble t 76 then (bif Nat.beq t 76 then some Nb else none) else (bif Nat.beq t 77 then some Nc else none)) else (bif Nat.ble t 78 then (bif Nat.beq t 78 then some Nd else none) else (bif Nat.ble t 79 then (bif Nat.beq t 79 then some Nf else none) else (bif Nat.beq t 80 then some Ng else none)))) else (bif Nat.ble t 83 then (bif Nat.ble t 81 then (bif Nat.beq t 81 then some Nh else none) else (bif Nat.ble t 82 then (bif Nat.beq t 82 then some Ni else none) else (bif Nat.beq t 83 then some Nj else none))) else (bif Nat.ble t 84 then (bif Nat.beq t 84 then some Nk else none) else (bif Nat.ble t 85 then (bif Nat.beq t 85 then some Nl else none) else (bif Nat.beq t 86 then some Nm else none))))) else (bif Nat.ble t 92 then (bif Nat.ble t 89 then (bif Nat.ble t 87 then (bif Nat.beq t 87 then some Nn else none) else (bif Nat.ble t 88 then (bif Nat.beq t 88 then some No else none) else (bif Nat.beq t 89 then some Np else none))) else (bif Nat.ble t 90 then (bif Nat.beq t 90 then some Nq else none) else (bif Nat.ble t 91 then (bif Nat.beq t 91 then some Nr else none) else (bif Nat.beq t 92 then some Ns else none)))) else (bif Nat.ble t 95 then (bif Nat.ble t 93 then (bif Nat.beq t 93 then some Nt else none) else (bif Nat.ble t 94 then (bif Nat.beq t 94 then some Nu else none) else (bif Nat.beq t 95 then some Nv else none))) else (bif Nat.ble t 97 then (bif Nat.beq t 97 then some Nw else none) else (bif Nat.ble t 98 then (bif Nat.beq t 98 then some Nx else none) else (bif Nat.beq t 99 then some Ny else none)))))))) else (bif Nat.ble t 148 then (bif Nat.ble t 123 then (bif Nat.ble t 111 then (bif Nat.ble t 105 then (bif Nat.ble t 102 then (bif Nat.ble t 101 then (bif Nat.beq t 101 then some DE else none) else (bif Nat.beq t 102 then some DF else none)) else (bif Nat.ble t 103 then (bif Nat.beq t 103 then some DG else none) else (bif Nat.ble t 104 then (bif Nat.beq t 104 then some DH else none) else (bif Nat.beq t 105 then some DI else none)))) else (bif Nat.ble t 108 then (bif Nat.ble t 106 then (bif Nat.beq t 106 then some DJ else none) else (bif Nat.ble t 107 then (bif Nat.beq t 107 then some DK else none) else (bif Nat.beq t 108 then some DL else none))) else (bif Nat.ble t 109 then (bif Nat.beq t 109 then some DM else none) else (bif Nat.ble t 110 then (bif Nat.beq t 110 then some DN else none) else (bif Nat.beq t 111 then some DO else none))))) else (bif Nat.ble t 117 then (bif Nat.ble t 114 then (bif Nat.ble t 112 then (bif Nat.beq t 112 then some DP else none) else (bif Nat.beq t 114 then some DQ else none)) else (bif Nat.ble t 115 then (bif Nat.beq t 115 then some DR else none) else (bif Nat.ble t 116 then (bif Nat.beq t 116 then some DS else none) else (bif Nat.beq t 117 then some DT else none)))) else (bif Nat.ble t 120 then (bif Nat.ble t 118 then (bif Nat.beq t 118 then some DU else none) else (bif Nat.ble t 119 then (bif Nat.beq t 119 then some DV else none) else (bif Nat.beq t 120 then some DW else none))) else (bif Nat.ble t 121 then (bif Nat.beq t 121 then some DX else none) else (bif Nat.ble t 122 then (bif Nat.beq t 122 then some DY else none) else (bif Nat.beq t 123 then some DZ else none)))))) else (bif Nat.ble t 135 then (bif Nat.ble t 128 then (bif Nat.ble t 125 then (bif Nat.ble t 124 then (bif Nat.beq t 124 then some D0 else none) else (bif Nat.beq t 125 then some D1 else none)) else (bif Nat.ble t 126 then (bif Nat.beq t 126 then some D2 else none) else (bif Nat.ble t 127 then (bif Nat.beq t 127 then some D3 else none) else (bif Nat.beq t 128 then some D4 else none)))) else (bif Nat.ble t 131 then (bif Nat.ble t 129 then (bif Nat.beq t 129 then some D5 else none) else (bif Nat.ble t 130 then (bif Nat.beq t 130 then some D6 else none) else (bif Nat.beq t 131 then some D7 else none))) else (bif Nat.ble t 132 then (bif Nat.beq t 132 then some D8 else none) else (bif Nat.ble t 133 then (bif Nat.beq t 133 then some D9 else none) else (bif Nat.beq t 135 then some D_ else none))))) else (bif Nat.ble t 141 then (bif Nat.ble t 138 then (bif Nat.ble t 136 then (bif Nat.beq t 136 then some Ea else none) else (bif Nat.ble t 137 then (bif Nat.beq t 137 then some Eb else none) else (bif Nat.beq t 138 then some Ec else none))) else (bif Nat.ble t 139 then (bif Nat.beq t 139 then some Ed else none) else (bif Nat.ble t 140 then (bif Nat.beq t 140 then some Ee else none) else (bif Nat.beq t 141 then some Ef else none)))) else (bif Nat.ble t 144 then (bif Nat.ble t 142 then (bif Nat.beq t 142 then some Eg else none) else (bif Nat.ble t 143 then (bif Nat.beq t 143 then some Eh else none) else (bif Nat.beq t 144 then some Ei else none))) else (bif Nat.ble t 145 then (bif Nat.beq t 145 then some Ej else none) else (bif Nat.ble t 146 then (bif Nat.beq t 146 then some Ek else none) else (bif Nat.beq t 148 then some El else none))))))) else (bif Nat.ble t 174 then (bif Nat.ble t 161 then (bif Nat.ble t 153 then (bif Nat.ble t 150 then (bif Nat.ble t 149 then (bif Nat.beq t 149 then some Em else none) else (bif Nat.beq t 150 then some En else none)) else (bif Nat.ble t 151 then (bif Nat.beq t 151 then some Eo else none) else (bif Nat.ble t 152 then (bif Nat.beq t 152 then some Ep else none) else (bif Nat.beq t 153 then some Er else none)))) else (bif Nat.ble t 158 then (bif Nat.ble t 155 then (bif Nat.beq t 155 then some Es else none) else (bif Nat.ble t 157 then (bif Nat.beq t 157 then some Et else none) else (bif Nat.beq t 158 then some Eu else none))) else (bif Nat.ble t 159 then (bif Nat.beq t 159 then some Ev else none) else (bif Nat.ble t 160 then (bif Nat.beq t 160 then some Ew else none) else (bif Nat.beq t 161 then some Ey else none))))) else (bif Nat.ble t 167 then (bif Nat.ble t 164 then (bif Nat.ble t 162 then (bif Nat.beq t 162 then some Ez else none) else (bif Nat.ble t 163 then (bif Nat.beq t 163 then some EA else none) else (bif Nat.beq t 164 then some EB else none))) else (bif Nat.ble t 165 then (bif Nat.beq t 165 then some EC else none) else (bif Nat.ble t 166 then (bif Nat.beq t 166 then some ED else none) else (bif Nat.beq t 167 then some EE else none)))) else (bif Nat.ble t 171 then (bif Nat.ble t 168 then (bif Nat.beq t 168 then some EF else none) else (bif Nat.ble t 169 then (bif Nat.beq t 169 then some EG else none) else (bif Nat.beq t 171 then some EH else none))) else (bif Nat.ble t 172 then (bif Nat.beq t 172 then some EI else none) else (bif Nat.ble t 173 then (bif Nat.beq t 173 then some EJ else none) else (bif Nat.beq t 174 then some EK else none)))))) else (bif Nat.ble t 186 then (bif Nat.ble t 179 then (bif Nat.ble t 176 then (bif Nat.ble t 175 then (bif Nat.beq t 175 then some EL else none) else (bif Nat.beq t 176 then some EM else none)) else (bif Nat.ble t 177 then (bif Nat.beq t 177 then some EN else none) else (bif Nat.ble t 178 then (bif Nat.beq t 178 then some EO else none) else (bif Nat.beq t 179 then some EP else none)))) else (bif Nat.ble t 182 then (bif Nat.ble t 180 then (bif Nat.beq t 180 then some EQ else none) else (bif Nat.ble t 181 then (bif Nat.beq t 181 then some ER else none) else (bif Nat.beq t 182 then some ES else none))) else (bif Nat.ble t 184 then (bif Nat.beq t 184 then some ET else none) else (bif Nat.ble t 185 then (bif Nat.beq t 185 then some EU else none) else (bif Nat.beq t 186 then some EV else none))))) else (bif Nat.ble t 192 then (bif Nat.ble t 189 then (bif Nat.ble t 187 then (bif Nat.beq t 187 then some EW else none) else (bif Nat.ble t 188 then (bif Nat.beq t 188 then some EX else none) else (bif Nat.beq t 189 then some EY else none))) else (bif Nat.ble t 190 then (bif Nat.beq t 190 then some EZ else none) else (bif Nat.ble t 191 then (bif Nat.beq t 191 then some E0 else none) else (bif Nat.beq t 192 then some E1 else none)))) else (bif Nat.ble t 195 then (bif Nat.ble t 193 then (bif Nat.beq t 193 then some E2 else none) else (bif Nat.ble t 194 then (bif Nat.beq t 194 then some E3 else none) else (bif Nat.beq t 195 then some E4 else none))) else (bif Nat.ble t 197 then (bif Nat.beq t 197 then some E5 else none) else (bif Nat.ble t 198 then (bif Nat.beq t 198 then some E6 else none) else (bif Nat.beq t 199 then some E7 else none)))))))))
theorem RR : aC Tryz.prog 1=some ti1:=by kernel_rfl
theorem RS : aC Tryz.prog 2=some ti2:=by kernel_rfl
theorem RT : aC Tryz.prog 3=some ti3:=by kernel_rfl
theorem RU : aC Tryz.prog 4=some ti4:=by kernel_rfl
theorem RV : aC Tryz.prog 5=some ti5:=by kernel_rfl
theorem RW : aC Tryz.prog 6=some ti6:=by kernel_rfl
theorem RX : aC Tryz.prog 7=some ti7:=by kernel_rfl
theorem RY : aC Tryz.prog 8=some ti8:=by kernel_rfl
theorem RZ : aC Tryz.prog 9=some ti9:=by kernel_rfl
theorem Nz : aC Tryz.prog 10=some Me:=by kernel_rfl
theorem NA : aC Tryz.prog 11=some Mf:=by kernel_rfl
theorem NB : aC Tryz.prog 12=some Mg:=by kernel_rfl
theorem NC : aC Tryz.prog 13=some Mh:=by kernel_rfl
theorem ND : aC Tryz.prog 14=some Mi:=by kernel_rfl
theorem NE : aC Tryz.prog 15=some Mj:=by kernel_rfl
theorem NF : aC Tryz.prog 16=some Mk:=by kernel_rfl
theorem NG : aC Tryz.prog 17=some Ml:=by kernel_rfl
theorem NH : aC Tryz.prog 18=some Mm:=by kernel_rfl
theorem NI : aC Tryz.prog 19=some Mn:=by kernel_rfl
theorem NJ : aC Tryz.prog 20=some Mo:=by kernel_rfl
theorem NK : aC Tryz.prog 21=some Mq:=by kernel_rfl
theorem NL : aC Tryz.prog 22=some Mr:=by kernel_rfl
theorem NM : aC Tryz.prog 23=some Ms:=by kernel_rfl
theorem NN : aC Tryz.prog 24=some Mt:=by kernel_rfl
theorem NO : aC Tryz.prog 25=some Mu:=by kernel_rfl
theorem NP : aC Tryz.prog 26=some Mv:=by kernel_rfl
theorem NQ : aC Tryz.prog 27=some Mw:=by kernel_rfl
theorem NR : aC Tryz.prog 28=some Mx:=by kernel_rfl
theorem NS : aC Tryz.prog 29=some My:=by kernel_rfl
theorem NT : aC Tryz.prog 30=some Mz:=by kernel_rfl
theorem NU : aC Tryz.prog 31=some MA:=by kernel_rfl
theorem NV : aC Tryz.prog 32=some MB:=by kernel_rfl
theorem NW : aC Tryz.prog 33=some MC:=by kernel_rfl
theorem NX : aC Tryz.prog 34=some MD:=by kernel_rfl
theorem NY : aC Tryz.prog 35=some ME:=by kernel_rfl
theorem NZ : aC Tryz.prog 36=some MF:=by kernel_rfl
theorem N0 : aC Tryz.prog 38=some MG:=by kernel_rfl
theorem N1 : aC Tryz.prog 39=some MH:=by kernel_rfl
theorem N2 : aC Tryz.prog 40=some MI:=by kernel_rfl
theorem N3 : aC Tryz.prog 42=some MJ:=by kernel_rfl
theorem N4 : aC Tryz.prog 43=some MK:=by kernel_rfl
theorem N5 : aC Tryz.prog 45=some ML:=by kernel_rfl
theorem N6 : aC Tryz.prog 46=some MM:=by kernel_rfl
theorem N7 : aC Tryz.prog 47=some MN:=by kernel_rfl
theorem N8 : aC Tryz.prog 48=some MO:=by kernel_rfl
theorem N9 : aC Tryz.prog 49=some MP:=by kernel_rfl
theorem N_ : aC Tryz.prog 50=some MQ:=by kernel_rfl
theorem Oa : aC Tryz.prog 51=some MR:=by kernel_rfl
theorem Oc : aC Tryz.prog 52=some MS:=by kernel_rfl
theorem Od : aC Tryz.prog 53=some MT:=by kernel_rfl
theorem Oe : aC Tryz.prog 54=some MU:=by kernel_rfl
theorem Of : aC Tryz.prog 55=some MV:=by kernel_rfl
theorem Og : aC Tryz.prog 56=some MW:=by kernel_rfl
theorem Oh : aC Tryz.prog 57=some MX:=by kernel_rfl
theorem Oi : aC Tryz.prog 58=some MY:=by kernel_rfl
theorem Oj : aC Tryz.prog 59=some MZ:=by kernel_rfl
theorem Ok : aC Tryz.prog 60=some M0:=by kernel_rfl
theorem Ol : aC Tryz.prog 61=some M1:=by kernel_rfl
theorem Om : aC Tryz.prog 62=some M2:=by kernel_rfl
theorem On : aC Tryz.prog 63=some M3:=by kernel_rfl
theorem Oo : aC Tryz.prog 65=some M4:=by kernel_rfl
theorem Oq : aC Tryz.prog 66=some M5:=by kernel_rfl
theorem Ot : aC Tryz.prog 67=some M6:=by kernel_rfl
theorem Ou : aC Tryz.prog 68=some M7:=by kernel_rfl
theorem Ov : aC Tryz.prog 69=some M8:=by kernel_rfl
theorem Ow : aC Tryz.prog 71=some M9:=by kernel_rfl
theorem Ox : aC Tryz.prog 73=some M_:=by kernel_rfl
theorem Oy : aC Tryz.prog 75=some Na:=by kernel_rfl
theorem Oz : aC Tryz.prog 76=some Nb:=by kernel_rfl
theorem OA : aC Tryz.prog 77=some Nc:=by kernel_rfl
theorem OB : aC Tryz.prog 78=some Nd:=by kernel_rfl
theorem OC : aC Tryz.prog 79=some Nf:=by kernel_rfl
theorem OD : aC Tryz.prog 80=some Ng:=by kernel_rfl
theorem OE : aC Tryz.prog 81=some Nh:=by kernel_rfl
theorem OF : aC Tryz.prog 82=some Ni:=by kernel_rfl
theorem OG : aC Tryz.prog 83=some Nj:=by kernel_rfl
theorem OH : aC Tryz.prog 84=some Nk:=by kernel_rfl
theorem OI : aC Tryz.prog 85=some Nl:=by kernel_rfl
theorem OJ : aC Tryz.prog 86=some Nm:=by kernel_rfl
theorem OK : aC Tryz.prog 87=some Nn:=by kernel_rfl
theorem OL : aC Tryz.prog 88=some No:=by kernel_rfl
theorem OM : aC Tryz.prog 89=some Np:=by kernel_rfl
theorem ON : aC Tryz.prog 90=some Nq:=by kernel_rfl
theorem OO : aC Tryz.prog 91=some Nr:=by kernel_rfl
theorem OP : aC Tryz.prog 92=some Ns:=by kernel_rfl
theorem OQ : aC Tryz.prog 93=some Nt:=by kernel_rfl
theorem OS : aC Tryz.prog 94=some Nu:=by kernel_rfl
theorem OT : aC Tryz.prog 95=some Nv:=by kernel_rfl
theorem OU : aC Tryz.prog 97=some Nw:=by kernel_rfl
theorem OV : aC Tryz.prog 98=some Nx:=by kernel_rfl
theorem OW : aC Tryz.prog 99=some Ny:=by kernel_rfl
theorem H0 : aC Tryz.prog 101=some DE:=by kernel_rfl
theorem H1 : aC Tryz.prog 102=some DF:=by kernel_rfl
theorem H2 : aC Tryz.prog 103=some DG:=by kernel_rfl
theorem H3 : aC Tryz.prog 104=some DH:=by kernel_rfl
theorem H4 : aC Tryz.prog 105=some DI:=by kernel_rfl
theorem H5 : aC Tryz.prog 106=some DJ:=by kernel_rfl
theorem H6 : aC Tryz.prog 107=some DK:=by kernel_rfl
theorem H7 : aC Tryz.prog 108=some DL:=by kernel_rfl
theorem H8 : aC Tryz.prog 109=some DM:=by kernel_rfl
theorem H9 : aC Tryz.prog 110=some DN:=by kernel_rfl
theorem H_ : aC Tryz.prog 111=some DO:=by kernel_rfl
theorem Ia : aC Tryz.prog 112=some DP:=by kernel_rfl
theorem Ib : aC Tryz.prog 114=some DQ:=by kernel_rfl
theorem Ic : aC Tryz.prog 115=some DR:=by kernel_rfl
theorem Id : aC Tryz.prog 116=some DS:=by kernel_rfl
theorem Ie : aC Tryz.prog 117=some DT:=by kernel_rfl
theorem If : aC Tryz.prog 118=some DU:=by kernel_rfl
theorem Ig : aC Tryz.prog 119=some DV:=by kernel_rfl
theorem Ih : aC Tryz.prog 120=some DW:=by kernel_rfl
theorem Ii : aC Tryz.prog 121=some DX:=by kernel_rfl
theorem Ij : aC Tryz.prog 122=some DY:=by kernel_rfl
theorem Ik : aC Tryz.prog 123=some DZ:=by kernel_rfl
theorem Il : aC Tryz.prog 124=some D0:=by kernel_rfl
theorem Im : aC Tryz.prog 125=some D1:=by kernel_rfl
theorem In : aC Tryz.prog 126=some D2:=by kernel_rfl
theorem Io : aC Tryz.prog 127=some D3:=by kernel_rfl
theorem Ip : aC Tryz.prog 128=some D4:=by kernel_rfl
theorem Iq : aC Tryz.prog 129=some D5:=by kernel_rfl
theorem Ir : aC Tryz.prog 130=some D6:=by kernel_rfl
theorem Is : aC Tryz.prog 131=some D7:=by kernel_rfl
theorem It : aC Tryz.prog 132=some D8:=by kernel_rfl
theorem Iu : aC Tryz.prog 133=some D9:=by kernel_rfl
theorem Iv : aC Tryz.prog 135=some D_:=by kernel_rfl
theorem Iw : aC Tryz.prog 136=some Ea:=by kernel_rfl
theorem Ix : aC Tryz.prog 137=some Eb:=by kernel_rfl
theorem Iy : aC Tryz.prog 138=some Ec:=by kernel_rfl
theorem Iz : aC Tryz.prog 139=some Ed:=by kernel_rfl
theorem IA : aC Tryz.prog 140=some Ee:=by kernel_rfl
theorem IB : aC Tryz.prog 141=some Ef:=by kernel_rfl
theorem IC : aC Tryz.prog 142=some Eg:=by kernel_rfl
theorem ID : aC Tryz.prog 143=some Eh:=by kernel_rfl
theorem IE : aC Tryz.prog 144=some Ei:=by kernel_rfl
theorem IF : aC Tryz.prog 145=some Ej:=by kernel_rfl
theorem IG : aC Tryz.prog 146=some Ek:=by kernel_rfl
theorem IH : aC Tryz.prog 148=some El:=by kernel_rfl
theorem II : aC Tryz.prog 149=some Em:=by kernel_rfl
theorem IJ : aC Tryz.prog 150=some En:=by kernel_rfl
theorem IK : aC Tryz.prog 151=some Eo:=by kernel_rfl
theorem IL : aC Tryz.prog 152=some Ep:=by kernel_rfl
theorem IM : aC Tryz.prog 153=some Er:=by kernel_rfl
theorem IN : aC Tryz.prog 155=some Es:=by kernel_rfl
theorem IP : aC Tryz.prog 157=some Et:=by kernel_rfl
theorem IQ : aC Tryz.prog 158=some Eu:=by kernel_rfl
theorem IR : aC Tryz.prog 159=some Ev:=by kernel_rfl
theorem IS : aC Tryz.prog 160=some Ew:=by kernel_rfl
theorem IT : aC Tryz.prog 161=some Ey:=by kernel_rfl
theorem IU : aC Tryz.prog 162=some Ez:=by kernel_rfl
theorem IV : aC Tryz.prog 163=some EA:=by kernel_rfl
theorem IW : aC Tryz.prog 164=some EB:=by kernel_rfl
theorem IX : aC Tryz.prog 165=some EC:=by kernel_rfl
theorem IY : aC Tryz.prog 166=some ED:=by kernel_rfl
theorem IZ : aC Tryz.prog 167=some EE:=by kernel_rfl
theorem I0 : aC Tryz.prog 168=some EF:=by kernel_rfl
theorem I1 : aC Tryz.prog 169=some EG:=by kernel_rfl
theorem I2 : aC Tryz.prog 171=some EH:=by kernel_rfl
theorem I3 : aC Tryz.prog 172=some EI:=by kernel_rfl
theorem I4 : aC Tryz.prog 173=some EJ:=by kernel_rfl
theorem I5 : aC Tryz.prog 174=some EK:=by kernel_rfl
theorem I6 : aC Tryz.prog 175=some EL:=by kernel_rfl
theorem I7 : aC Tryz.prog 176=some EM:=by kernel_rfl
theorem I8 : aC Tryz.prog 177=some EN:=by kernel_rfl
theorem I9 : aC Tryz.prog 178=some EO:=by kernel_rfl
theorem I_ : aC Tryz.prog 179=some EP:=by kernel_rfl
theorem Ja : aC Tryz.prog 180=some EQ:=by kernel_rfl
theorem Jb : aC Tryz.prog 181=some ER:=by kernel_rfl
theorem Jc : aC Tryz.prog 182=some ES:=by kernel_rfl
theorem Jd : aC Tryz.prog 184=some ET:=by kernel_rfl
theorem Je : aC Tryz.prog 185=some EU:=by kernel_rfl
theorem Jf : aC Tryz.prog 186=some EV:=by kernel_rfl
theorem Jg : aC Tryz.prog 187=some EW:=by kernel_rfl
theorem Jh : aC Tryz.prog 188=some EX:=by kernel_rfl
theorem Ji : aC Tryz.prog 189=some EY:=by kernel_rfl
theorem Jj : aC Tryz.prog 190=some EZ:=by kernel_rfl
theorem Jk : aC Tryz.prog 191=some E0:=by kernel_rfl
theorem Jl : aC Tryz.prog 192=some E1:=by kernel_rfl
theorem Jm : aC Tryz.prog 193=some E2:=by kernel_rfl
theorem Jn : aC Tryz.prog 194=some E3:=by kernel_rfl
theorem Jo : aC Tryz.prog 195=some E4:=by kernel_rfl
theorem Jp : aC Tryz.prog 197=some E5:=by kernel_rfl
theorem Jq : aC Tryz.prog 198=some E6:=by kernel_rfl
theorem Jr : aC Tryz.prog 199=some E7:=by kernel_rfl
theorem aH : Tis.ok ts Tryz.prog:=(Tis.ok_node (Tis.ok_node (Tis.ok_node (Tis.ok_node (Tis.ok_node (Tis.ok_node (Tis.ok_node (Tis.ok_leaf RR) (Tis.ok_leaf RS)) (Tis.ok_node (Tis.ok_leaf RT) (Tis.ok_node (Tis.ok_leaf RU) (Tis.ok_leaf RV)))) (Tis.ok_node (Tis.ok_node (Tis.ok_leaf RW) (Tis.ok_node (Tis.ok_leaf RX) (Tis.ok_leaf RY))) (Tis.ok_node (Tis.ok_leaf RZ) (Tis.ok_node (Tis.ok_leaf Nz) (Tis.ok_leaf NA))))) (Tis.ok_node (Tis.ok_node (Tis.ok_node (Tis.ok_leaf NB) (Tis.ok_leaf NC)) (Tis.ok_node (Tis.ok_leaf ND) (Tis.ok_node (Tis.ok_leaf NE) (Tis.ok_leaf NF)))) (Tis.ok_node (Tis.ok_node (Tis.ok_leaf NG) (Tis.ok_node (Tis.ok_leaf NH) (Tis.ok_leaf NI))) (Tis.ok_node (Tis.ok_leaf NJ) (Tis.ok_node (Tis.ok_leaf NK) (Tis.ok_leaf NL)))))) (Tis.ok_node (Tis.ok_node (Tis.ok_node (Tis.ok_node (Tis.ok_leaf NM) (Tis.ok_leaf NN)) (Tis.ok_node (Tis.ok_leaf NO) (Tis.ok_node (Tis.ok_leaf NP) (Tis.ok_leaf NQ)))) (Tis.ok_node (Tis.ok_node (Tis.ok_leaf NR) (Tis.ok_node (Tis.ok_leaf NS) (Tis.ok_leaf NT))) (Tis.ok_node (Tis.ok_leaf NU) (Tis.ok_node (Tis.ok_leaf NV) (Tis.ok_leaf NW))))) (Tis.ok_node (Tis.ok_node (Tis.ok_node (Tis.ok_leaf NX) (Tis.ok_node (Tis.ok_leaf NY) (Tis.ok_leaf NZ))) (Tis.ok_node (Tis.ok_leaf N0) (Tis.ok_node (Tis.ok_leaf N1) (Tis.ok_leaf N2)))) (Tis.ok_node (Tis.ok_node (Tis.ok_leaf N3) (Tis.ok_node (Tis.ok_leaf N4) (Tis.ok_leaf N5))) (Tis.ok_node (Tis.ok_leaf N6) (Tis.ok_node (Tis.ok_leaf N7) (Tis.ok_leaf N8))))))) (Tis.ok_node (Tis.ok_node (Tis.ok_node (Tis.ok_node (Tis.ok_node (Tis.ok_leaf N9) (Tis.ok_leaf N_)) (Tis.ok_node (Tis.ok_leaf Oa) (Tis.ok_node (Tis.ok_leaf Oc) (Tis.ok_leaf Od)))) (Tis.ok_node (Tis.ok_node (Tis.ok_leaf Oe) (Tis.ok_node (Tis.ok_leaf Of) (Tis.ok_leaf Og))) (Tis.ok_node (Tis.ok_leaf Oh) (Tis.ok_node (Tis.ok_leaf Oi) (Tis.ok_leaf Oj))))) (Tis.ok_node (Tis.ok_node (Tis.ok_node (Tis.ok_leaf Ok) (Tis.ok_node (Tis.ok_leaf Ol) (Tis.ok_leaf Om))) (Tis.ok_node (Tis.ok_leaf On) (Tis.ok_node (Tis.ok_leaf Oo) (Tis.ok_leaf Oq)))) (Tis.ok_node (Tis.ok_node (Tis.ok_leaf Ot) (Tis.ok_node (Tis.ok_leaf Ou) (Tis.ok_leaf Ov))) (Tis.ok_node (Tis.ok_leaf Ow) (Tis.ok_node (Tis.ok_leaf Ox) (Tis.ok_leaf Oy)))))) (Tis.ok_node (Tis.ok_node (Tis.ok_node (Tis.ok_node (Tis.ok_leaf Oz) (Tis.ok_leaf OA)) (Tis.ok_node (Tis.ok_leaf OB) (Tis.ok_node (Tis.ok_leaf OC) (Tis.ok_leaf OD)))) (Tis.ok_node (Tis.ok_node (Tis.ok_leaf OE) (Tis.ok_node (Tis.ok_leaf OF) (Tis.ok_leaf OG))) (Tis.ok_node (Tis.ok_leaf OH) (Tis.ok_node (Tis.ok_leaf OI) (Tis.ok_leaf OJ))))) (Tis.ok_node (Tis.ok_node (Tis.ok_node (Tis.ok_leaf OK) (Tis.ok_node (Tis.ok_leaf OL) (Tis.ok_leaf OM))) (Tis.ok_node (Tis.ok_leaf ON) (Tis.ok_node (Tis.ok_leaf OO) (Tis.ok_leaf OP)))) (Tis.ok_node (Tis.ok_node (Tis.ok_leaf OQ) (Tis.ok_node (Tis.ok_leaf OS) (Tis.ok_leaf OT))) (Tis.ok_node (Tis.ok_leaf OU) (Tis.ok_node (Tis.ok_leaf OV) (Tis.ok_leaf OW)))))))) (Tis.ok_node (Tis.ok_node (Tis.ok_node (Tis.ok_node (Tis.ok_node (Tis.ok_node (Tis.ok_leaf H0) (Tis.ok_leaf H1)) (Tis.ok_node (Tis.ok_leaf H2) (Tis.ok_node (Tis.ok_leaf H3) (Tis.ok_leaf H4)))) (Tis.ok_node (Tis.ok_node (Tis.ok_leaf H5) (Tis.ok_node (Tis.ok_leaf H6) (Tis.ok_leaf H7))) (Tis.ok_node (Tis.ok_leaf H8) (Tis.ok_node (Tis.ok_leaf H9) (Tis.ok_leaf H_))))) (Tis.ok_node (Tis.ok_node (Tis.ok_node (Tis.ok_leaf Ia) (Tis.ok_leaf Ib)) (Tis.ok_node (Tis.ok_leaf Ic) (Tis.ok_node (Tis.ok_leaf Id) (Tis.ok_leaf Ie)))) (Tis.ok_node (Tis.ok_node (Tis.ok_leaf If) (Tis.ok_node (Tis.ok_leaf Ig) (Tis.ok_leaf Ih))) (Tis.ok_node (Tis.ok_leaf Ii) (Tis.ok_node (Tis.ok_leaf Ij) (Tis.ok_leaf Ik)))))) (Tis.ok_node (Tis.ok_node (Tis.ok_node (Tis.ok_node (Tis.ok_leaf Il) (Tis.ok_leaf Im)) (Tis.ok_node (Tis.ok_leaf In) (Tis.ok_node (Tis.ok_leaf Io) (Tis.ok_leaf Ip)))) (Tis.ok_node (Tis.ok_node (Tis.ok_leaf Iq) (Tis.ok_node (Tis.ok_leaf Ir) (Tis.ok_leaf Is))) (Tis.ok_node (Tis.ok_leaf It) (Tis.ok_node (Tis.ok_leaf Iu) (Tis.ok_leaf Iv))))) (Tis.ok_node (Tis.ok_node (Tis.ok_node (Tis.ok_leaf Iw) (Tis.ok_node (Tis.ok_leaf Ix) (Tis.ok_leaf Iy))) (Tis.ok_node (Tis.ok_leaf Iz) (Tis.ok_node (Tis.ok_leaf IA) (Tis.ok_leaf IB)))) (Tis.ok_node (Tis.ok_node (Tis.ok_leaf IC) (Tis.ok_node (Tis.ok_leaf ID) (Tis.ok_leaf IE))) (Tis.ok_node (Tis.ok_leaf IF) (Tis.ok_node (Tis.ok_leaf IG) (Tis.ok_leaf IH))))))) (Tis.ok_node (Tis.ok_node (Tis.ok_node (Tis.ok_node (Tis.ok_node (Tis.ok_leaf II) (Tis.ok_leaf IJ)) (Tis.ok_node (Tis.ok_leaf IK) (Tis.ok_node (Tis.ok_leaf IL) (Tis.ok_leaf IM)))) (Tis.ok_node (Tis.ok_node (Tis.ok_leaf IN) (Tis.ok_node (Tis.ok_leaf IP) (Tis.ok_leaf IQ))) (Tis.ok_node (Tis.ok_leaf IR) (Tis.ok_node (Tis.ok_leaf IS) (Tis.ok_leaf IT))))) (Tis.ok_node (Tis.ok_node (Tis.ok_node (Tis.ok_leaf IU) (Tis.ok_node (Tis.ok_leaf IV) (Tis.ok_leaf IW))) (Tis.ok_node (Tis.ok_leaf IX) (Tis.ok_node (Tis.ok_leaf IY) (Tis.ok_leaf IZ)))) (Tis.ok_node (Tis.ok_node (Tis.ok_leaf I0) (Tis.ok_node (Tis.ok_leaf I1) (Tis.ok_leaf I2))) (Tis.ok_node (Tis.ok_leaf I3) (Tis.ok_node (Tis.ok_leaf I4) (Tis.ok_leaf I5)))))) (Tis.ok_node (Tis.ok_node (Tis.ok_node (Tis.ok_node (Tis.ok_leaf I6) (Tis.ok_leaf I7)) (Tis.ok_node (Tis.ok_leaf I8) (Tis.ok_node (Tis.ok_leaf I9) (Tis.ok_leaf I_)))) (Tis.ok_node (Tis.ok_node (Tis.ok_leaf Ja) (Tis.ok_node (Tis.ok_leaf Jb) (Tis.ok_leaf Jc))) (Tis.ok_node (Tis.ok_leaf Jd) (Tis.ok_node (Tis.ok_leaf Je) (Tis.ok_leaf Jf))))) (Tis.ok_node (Tis.ok_node (Tis.ok_node (Tis.ok_leaf Jg) (Tis.ok_node (Tis.ok_leaf Jh) (Tis.ok_leaf Ji))) (Tis.ok_node (Tis.ok_leaf Jj) (Tis.ok_node (Tis.ok_leaf Jk) (Tis.ok_leaf Jl)))) (Tis.ok_node (Tis.ok_node (Tis.ok_leaf Jm) (Tis.ok_node (Tis.ok_leaf Jn) (Tis.ok_leaf Jo))) (Tis.ok_node (Tis.ok_leaf Jp) (Tis.ok_node (Tis.ok_leaf Jq) (Tis.ok_leaf Jr)))))))))
@[go_sem] theorem ts_1 : ts 1=some ti1:=(rfl)
@[go_sem] theorem ts_2 : ts 2=some ti2:=(rfl)
@[go_sem] theorem ts_3 : ts 3=some ti3:=(rfl)
@[go_sem] theorem ts_4 : ts 4=some ti4:=(rfl)
@[go_sem] theorem ts_5 : ts 5=some ti5:=(rfl)
@[go_sem] theorem ts_6 : ts 6=some ti6:=(rfl)
@[go_sem] theorem ts_7 : ts 7=some ti7:=(rfl)
@[go_sem] theorem ts_8 : ts 8=some ti8:=(rfl)
@[go_sem] theorem ts_9 : ts 9=some ti9:=(rfl)
@[go_sem] theorem ts_10 : ts 10=some Me:=(rfl)
@[go_sem] theorem ts_11 : ts 11=some Mf:=(rfl)
@[go_sem] theorem ts_12 : ts 12=some Mg:=(rfl)
@[go_sem] theorem ts_13 : ts 13=some Mh:=(rfl)
@[go_sem] theorem ts_14 : ts 14=some Mi:=(rfl)
@[go_sem] theorem ts_15 : ts 15=some Mj:=(rfl)
@[go_sem] theorem ts_16 : ts 16=some Mk:=(rfl)
@[go_sem] theorem ts_17 : ts 17=some Ml:=(rfl)
@[go_sem] theorem ts_18 : ts 18=some Mm:=(rfl)
@[go_sem] theorem ts_19 : ts 19=some Mn:=(rfl)
@[go_sem] theorem ts_20 : ts 20=some Mo:=(rfl)
@[go_sem] theorem ts_21 : ts 21=some Mq:=(rfl)
@[go_sem] theorem ts_22 : ts 22=some Mr:=(rfl)
@[go_sem] theorem ts_23 : ts 23=some Ms:=(rfl)
@[go_sem] theorem ts_24 : ts 24=some Mt:=(rfl)
@[go_sem] theorem ts_25 : ts 25=some Mu:=(rfl)
@[go_sem] theorem ts_26 : ts 26=some Mv:=(rfl)
@[go_sem] theorem ts_27 : ts 27=some Mw:=(rfl)
@[go_sem] theorem ts_28 : ts 28=some Mx:=(rfl)
@[go_sem] theorem ts_29 : ts 29=some My:=(rfl)
@[go_sem] theorem ts_30 : ts 30=some Mz:=(rfl)
@[go_sem] theorem ts_31 : ts 31=some MA:=(rfl)
@[go_sem] theorem ts_32 : ts 32=some MB:=(rfl)
@[go_sem] theorem ts_33 : ts 33=some MC:=(rfl)
@[go_sem] theorem ts_34 : ts 34=some MD:=(rfl)
@[go_sem] theorem ts_35 : ts 35=some ME:=(rfl)
@[go_sem] theorem ts_36 : ts 36=some MF:=(rfl)
@[go_sem] theorem ts_38 : ts 38=some MG:=(rfl)
@[go_sem] theorem ts_39 : ts 39=some MH:=(rfl)
@[go_sem] theorem ts_40 : ts 40=some MI:=(rfl)
@[go_sem] theorem ts_42 : ts 42=some MJ:=(rfl)
@[go_sem] theorem ts_43 : ts 43=some MK:=(rfl)
@[go_sem] theorem ts_45 : ts 45=some ML:=(rfl)
@[go_sem] theorem ts_46 : ts 46=some MM:=(rfl)
@[go_sem] theorem ts_47 : ts 47=some MN:=(rfl)
@[go_sem] theorem ts_48 : ts 48=some MO:=(rfl)
@[go_sem] theorem ts_49 : ts 49=some MP:=(rfl)
@[go_sem] theorem ts_50 : ts 50=some MQ:=(rfl)
@[go_sem] theorem ts_51 : ts 51=some MR:=(rfl)
@[go_sem] theorem ts_52 : ts 52=some MS:=(rfl)
@[go_sem] theorem ts_53 : ts 53=some MT:=(rfl)
@[go_sem] theorem ts_54 : ts 54=some MU:=(rfl)
@[go_sem] theorem ts_55 : ts 55=some MV:=(rfl)
@[go_sem] theorem ts_56 : ts 56=some MW:=(rfl)
@[go_sem] theorem ts_57 : ts 57=some MX:=(rfl)
@[go_sem] theorem ts_58 : ts 58=some MY:=(rfl)
@[go_sem] theorem ts_59 : ts 59=some MZ:=(rfl)
@[go_sem] theorem ts_60 : ts 60=some M0:=(rfl)
@[go_sem] theorem ts_61 : ts 61=some M1:=(rfl)
@[go_sem] theorem ts_62 : ts 62=some M2:=(rfl)
@[go_sem] theorem ts_63 : ts 63=some M3:=(rfl)
@[go_sem] theorem ts_65 : ts 65=some M4:=(rfl)
@[go_sem] theorem ts_66 : ts 66=some M5:=(rfl)
@[go_sem] theorem ts_67 : ts 67=some M6:=(rfl)
@[go_sem] theorem ts_68 : ts 68=some M7:=(rfl)
@[go_sem] theorem ts_69 : ts 69=some M8:=(rfl)
@[go_sem] theorem ts_71 : ts 71=some M9:=(rfl)
@[go_sem] theorem ts_73 : ts 73=some M_:=(rfl)
@[go_sem] theorem ts_75 : ts 75=some Na:=(rfl)
@[go_sem] theorem ts_76 : ts 76=some Nb:=(rfl)
@[go_sem] theorem ts_77 : ts 77=some Nc:=(rfl)
@[go_sem] theorem ts_78 : ts 78=some Nd:=(rfl)
@[go_sem] theorem ts_79 : ts 79=some Nf:=(rfl)
@[go_sem] theorem ts_80 : ts 80=some Ng:=(rfl)
@[go_sem] theorem ts_81 : ts 81=some Nh:=(rfl)
@[go_sem] theorem ts_82 : ts 82=some Ni:=(rfl)
@[go_sem] theorem ts_83 : ts 83=some Nj:=(rfl)
@[go_sem] theorem ts_84 : ts 84=some Nk:=(rfl)
@[go_sem] theorem ts_85 : ts 85=some Nl:=(rfl)
@[go_sem] theorem ts_86 : ts 86=some Nm:=(rfl)
@[go_sem] theorem ts_87 : ts 87=some Nn:=(rfl)
@[go_sem] theorem ts_88 : ts 88=some No:=(rfl)
@[go_sem] theorem ts_89 : ts 89=some Np:=(rfl)
@[go_sem] theorem ts_90 : ts 90=some Nq:=(rfl)
@[go_sem] theorem ts_91 : ts 91=some Nr:=(rfl)
@[go_sem] theorem ts_92 : ts 92=some Ns:=(rfl)
@[go_sem] theorem ts_93 : ts 93=some Nt:=(rfl)
@[go_sem] theorem ts_94 : ts 94=some Nu:=(rfl)
@[go_sem] theorem ts_95 : ts 95=some Nv:=(rfl)
@[go_sem] theorem ts_97 : ts 97=some Nw:=(rfl)
@[go_sem] theorem ts_98 : ts 98=some Nx:=(rfl)
@[go_sem] theorem ts_99 : ts 99=some Ny:=(rfl)
@[go_sem] theorem XY : ts 101=some DE:=(rfl)
@[go_sem] theorem XZ : ts 102=some DF:=(rfl)
@[go_sem] theorem X0 : ts 103=some DG:=(rfl)
@[go_sem] theorem X1 : ts 104=some DH:=(rfl)
@[go_sem] theorem X2 : ts 105=some DI:=(rfl)
@[go_sem] theorem X3 : ts 106=some DJ:=(rfl)
@[go_sem] theorem X4 : ts 107=some DK:=(rfl)
@[go_sem] theorem X5 : ts 108=some DL:=(rfl)
@[go_sem] theorem X6 : ts 109=some DM:=(rfl)
@[go_sem] theorem X7 : ts 110=some DN:=(rfl)
@[go_sem] theorem X8 : ts 111=some DO:=(rfl)
@[go_sem] theorem X9 : ts 112=some DP:=(rfl)
@[go_sem] theorem X_ : ts 114=some DQ:=(rfl)
@[go_sem] theorem Ya : ts 115=some DR:=(rfl)
@[go_sem] theorem Yb : ts 116=some DS:=(rfl)
@[go_sem] theorem Yc : ts 117=some DT:=(rfl)
@[go_sem] theorem Yd : ts 118=some DU:=(rfl)
@[go_sem] theorem Ye : ts 119=some DV:=(rfl)
@[go_sem] theorem Yf : ts 120=some DW:=(rfl)
@[go_sem] theorem Yg : ts 121=some DX:=(rfl)
@[go_sem] theorem Yh : ts 122=some DY:=(rfl)
@[go_sem] theorem Yi : ts 123=some DZ:=(rfl)
@[go_sem] theorem Yj : ts 124=some D0:=(rfl)
@[go_sem] theorem Yk : ts 125=some D1:=(rfl)
@[go_sem] theorem Yl : ts 126=some D2:=(rfl)
@[go_sem] theorem Ym : ts 127=some D3:=(rfl)
@[go_sem] theorem Yn : ts 128=some D4:=(rfl)
@[go_sem] theorem Yo : ts 129=some D5:=(rfl)
@[go_sem] theorem Yp : ts 130=some D6:=(rfl)
@[go_sem] theorem Yq : ts 131=some D7:=(rfl)
@[go_sem] theorem Yr : ts 132=some D8:=(rfl)
@[go_sem] theorem Ys : ts 133=some D9:=(rfl)
@[go_sem] theorem Yt : ts 135=some D_:=(rfl)
@[go_sem] theorem Yu : ts 136=some Ea:=(rfl)
@[go_sem] theorem Yv : ts 137=some Eb:=(rfl)
@[go_sem] theorem Yw : ts 138=some Ec:=(rfl)
@[go_sem] theorem Yx : ts 139=some Ed:=(rfl)
@[go_sem] theorem Yy : ts 140=some Ee:=(rfl)
@[go_sem] theorem Yz : ts 141=some Ef:=(rfl)
@[go_sem] theorem YA : ts 142=some Eg:=(rfl)
@[go_sem] theorem YB : ts 143=some Eh:=(rfl)
@[go_sem] theorem YC : ts 144=some Ei:=(rfl)
@[go_sem] theorem YD : ts 145=some Ej:=(rfl)
@[go_sem] theorem YE : ts 146=some Ek:=(rfl)
@[go_sem] theorem YF : ts 148=some El:=(rfl)
@[go_sem] theorem YG : ts 149=some Em:=(rfl)
@[go_sem] theorem YH : ts 150=some En:=(rfl)
@[go_sem] theorem YI : ts 151=some Eo:=(rfl)
@[go_sem] theorem YJ : ts 152=some Ep:=(rfl)
@[go_sem] theorem YK : ts 153=some Er:=(rfl)
@[go_sem] theorem YL : ts 155=some Es:=(rfl)
@[go_sem] theorem YM : ts 157=some Et:=(rfl)
@[go_sem] theorem YN : ts 158=some Eu:=(rfl)
@[go_sem] theorem YO : ts 159=some Ev:=(rfl)
@[go_sem] theorem YP : ts 160=some Ew:=(rfl)
@[go_sem] theorem YQ : ts 161=some Ey:=(rfl)
@[go_sem] theorem YR : ts 162=some Ez:=(rfl)
@[go_sem] theorem YS : ts 163=some EA:=(rfl)
@[go_sem] theorem YT : ts 164=some EB:=(rfl)
@[go_sem] theorem YU : ts 165=some EC:=(rfl)
@[go_sem] theorem YV : ts 166=some ED:=(rfl)
@[go_sem] theorem YW : ts 167=some EE:=(rfl)
@[go_sem] theorem YX : ts 168=some EF:=(rfl)
@[go_sem] theorem YY : ts 169=some EG:=(rfl)
@[go_sem] theorem YZ : ts 171=some EH:=(rfl)
@[go_sem] theorem Y0 : ts 172=some EI:=(rfl)
@[go_sem] theorem Y1 : ts 173=some EJ:=(rfl)
@[go_sem] theorem Y2 : ts 174=some EK:=(rfl)
@[go_sem] theorem Y3 : ts 175=some EL:=(rfl)
@[go_sem] theorem Y4 : ts 176=some EM:=(rfl)
@[go_sem] theorem Y5 : ts 177=some EN:=(rfl)
@[go_sem] theorem Y6 : ts 178=some EO:=(rfl)
@[go_sem] theorem Y7 : ts 179=some EP:=(rfl)
@[go_sem] theorem Y8 : ts 180=some EQ:=(rfl)
@[go_sem] theorem Y9 : ts 181=some ER:=(rfl)
@[go_sem] theorem Y_ : ts 182=some ES:=(rfl)
@[go_sem] theorem Za : ts 184=some ET:=(rfl)
@[go_sem] theorem Zb : ts 185=some EU:=(rfl)
@[go_sem] theorem Zc : ts 186=some EV:=(rfl)
@[go_sem] theorem Zd : ts 187=some EW:=(rfl)
@[go_sem] theorem Ze : ts 188=some EX:=(rfl)
@[go_sem] theorem Zf : ts 189=some EY:=(rfl)
@[go_sem] theorem Zg : ts 190=some EZ:=(rfl)
@[go_sem] theorem Zh : ts 191=some E0:=(rfl)
@[go_sem] theorem Zi : ts 192=some E1:=(rfl)
@[go_sem] theorem Zj : ts 193=some E2:=(rfl)
@[go_sem] theorem Zk : ts 194=some E3:=(rfl)
@[go_sem] theorem Zl : ts 195=some E4:=(rfl)
@[go_sem] theorem Zm : ts 197=some E5:=(rfl)
@[go_sem] theorem Zn : ts 198=some E6:=(rfl)
@[go_sem] theorem Zo : ts 199=some E7:=(rfl)
attribute [go_sem] ti1 ti2 ti3 ti4 ti5 ti6 ti7 ti8 ti9 Me Mf Mg Mh Mi Mj Mk Ml Mm Mn Mo Mq Mr Ms Mt Mu Mv Mw Mx My Mz MA MB MC MD ME MF MG MH MI MJ MK ML MM MN MO MP MQ MR MS MT MU MV MW MX MY MZ M0 M1 M2 M3 M4 M5 M6 M7 M8 M9 M_ Na Nb Nc Nd Nf Ng Nh Ni Nj Nk Nl Nm Nn No Np Nq Nr Ns Nt Nu Nv Nw Nx Ny DE DF DG DH DI DJ DK DL DM DN DO DP DQ DR DS DT DU DV DW DX DY DZ D0 D1 D2 D3 D4 D5 D6 D7 D8 D9 D_ Ea Eb Ec Ed Ee Ef Eg Eh Ei Ej Ek El Em En Eo Ep Er Es Et Eu Ev Ew Ey Ez EA EB EC ED EE EF EG EH EI EJ EK EL EM EN EO EP EQ ER ES ET EU EV EW EX EY EZ E0 E1 E2 E3 E4 E5 E6 E7
end Go.Sx
end
section
namespace Go.Sx
open Go.Proofs
theorem mixed : Tryz.prog.follows .mixedOrders=true:=by kernel_rfl
end Go.Sx
end
section
namespace Go.Sx
open Go.Proofs
set_option maxRecDepth 100000
def fI : List SV→Option Con
 | [.v (.iface t (.int .i64 e))] => bif Nat.beq t 169 then some (.det True (.i e)) else none
 | _=> none
theorem tn : FnOk Tryz.prog 74 fI:=by
 have hG : ConsOk Tryz.prog (mkG [] []) :=aQ (by simp) (by simp)
 refine a8 [.o] mixed aH hG (fn:=Tryz.f74) (c:=an Tryz.f74) (by kernel_rfl) (by kernel_rfl) (by kernel_rfl) (by kernel_rfl) fun l con h hp=> ?_
 unfold fI at h
 split at h
 ·rename_i t e
  cases ht : Nat.beq t 169 with
  | false=> rw [ht] at h;cases h
  | true=>
   rw [ht] at h
   cases h
   have ht':=Nat.eq_of_beq_eq_true ht
   subst ht'
   refine ⟨Nat.le_of_ble_eq_true rfl,L0,by unfold an Tryz.f74;simp only [aA,and_self],?_⟩
   unfold an Tryz.f74
   simp only [go_sem,true_imp_iff,false_imp_iff,Nat.reduceBEq,Nat.reduceLeDiff,Nat.reduceAdd,Nat.reduceSub,Nat.reduceMul,true_and,and_true,implies_true,reduceCtorEq]
 ·cases h
def R2 : Value→Option SV
 | .iface t (.int .i64 e) => bif Nat.beq t 169 then some (.i e) else none
 | _=> none
theorem Js : Qm Tryz.prog 73 R2:=by
 obtain ⟨fn,hfn,hbody,hn,hres⟩ : ∃ fn,Tryz.prog.funcs[73]? =some fn∧fn.body=some (an Tryz.f73)∧fn.ntmps=7∧fn.results= #[] :=⟨Tryz.f73,by kernel_rfl,by kernel_rfl,by kernel_rfl,by kernel_rfl⟩
 have hG : ConsOk Tryz.prog (mkG [(74,fI)] []) :=aQ (by
  intro x hx
  simp only [List.mem_cons,List.not_mem_nil,or_false] at hx
  rcases hx with rfl
  exact tn) (by simp)
 refine ⟨fun args w=> by kernel_rfl,fun p w=> ?_,?_⟩
 ·refine callsDIn_of_wpSIn hfn hbody trivial fun c₀ cs hu=> ?_
  unfold an Tryz.f73
  refine wpSIn_seq (wpSIn_region ?_)
  simp [wpOpsSIn,go_sem,recoverD,hu,hn,Exit.thenS,Oper.about,Region.wanted]
  refine wpSIn_seq (wpSIn_region ?_)
  simp [wpOpsSIn,go_sem,recoverD,hu,Exit.thenS,Oper.about,Region.wanted]
  refine wpSIn_cond (t:=false) (by simp [Act.eval]) ?_
  simp only [Bool.false_eq_true,if_false]
  refine wpSIn_of_wpIn rfl (wpIn_skip ?_)
  cases c₀
  simp_all [bodyPostS,results]
 ·intro x s hx F own w h id hd b y hp hob ho hpb
  unfold R2 at hx
  split at hx
  ·rename_i t e
   cases ht : Nat.beq t 169 with
   | false=> rw [ht] at hx;cases hx
   | true=>
    rw [ht] at hx
    cases hx
    have ht':=Nat.eq_of_beq_eq_true ht
    subst ht'
    refine callsDIn_of_wpSIn hfn hbody trivial fun c₀ cs hu=> ?_
    unfold an Tryz.f73
    refine wpSIn_seq (wpSIn_region ?_)
    simp [wpOpsSIn,go_sem,recoverD,hu,hn,Exit.thenS,Oper.about,Region.wanted]
    refine wpSIn_seq (wpSIn_region ?_)
    simp [wpOpsSIn,go_sem,recoverD,hu,Exit.thenS,Oper.about,Region.wanted]
    refine wpSIn_cond (t:=true) (by simp [Act.eval]) ?_
    simp only [if_true]
    refine wpSIn_of_wpIn rfl ?_
    have hr : StRel F { w:=w,own:=own} 7 own ⟨[(0,.ptr id 0),(1,.v (.iface 169 (.int .i64 e)))],h⟩ { tmps:= #[.pointer (some ⟨b,0,none⟩),.iface 169 (.int .i64 e),.iface 169 (.int .i64 e),.iface 169 (.int .i64 e),.bool true,undef,undef],defers:=[]} w:=by
     refine ⟨rfl,Dfr.nil,hp,Fr.refl { w:=w,own:=own},fun t=> ?_⟩
     rw [kg]
     by_cases h0 : 0=t
     ·subst h0;rw [if_pos rfl];exact .ptr ho hpb
     ·rw [if_neg h0,kg]
      by_cases h1 : 1=t
      ·subst h1;rw [if_pos rfl];exact .v _
      ·rw [if_neg h1];exact .any _
    refine wpIn_mono (CI (ts:=ts) (L:=L0) (Q:=fun st=> st.h=bU h id (.cells [.i e])) mixed aH hG (by kernel_rfl) ?_ hr) ?_
    ·simp only [go_sem,hob,fI,Nat.reduceBEq,Nat.reduceLeDiff,Nat.reduceAdd,true_and,and_true,true_imp_iff]
    ·rintro ex a' w' ⟨rfl,own1,st1,hst1,hh⟩
     have hd0 : a'.defers=[] :=by
      obtain ⟨ms,Ds,q0,q1,q2,q3⟩ :=hst1.defers
      cases Ds with
      | nil=> rw [q0];simp at q1;simp [q1]
      | cons D r=>
       obtain ⟨m1,m2,_⟩ :=q3 D (by simp)
       have:=hp.foreign D m2
       simp only at m1
       omega
     refine ⟨hd0,.panicking [{ v:= .iface 169 (.int .i64 e),recovered:=true}],?_,_,by simp [results,hres];rfl,⟨_,rfl⟩,rfl,own1,hh▸hst1.hp,hst1.fr⟩
     cases c₀
     simp_all
  ·cases hx
attribute [go_sem] fI
end Go.Sx
end
section
namespace Go.Sx
open Go.Proofs
set_option maxRecDepth 100000
set_option linter.unusedSimpArgs false
abbrev SV.u (n : Nat) : SV:= .v (.int .u64 (n : Int))
def uo (ps : List (Nat×(List SV→Option Con))) (os : List (Nat×(List SV→List Ob→Option HCon))) (Y : List SV→Res→Option YCon) : Cons:=⟨mkP ps,mkO os,Y⟩
@[go_sem] theorem Zp {ps : List (Nat×(List SV→Option Con))} {os : List (Nat×(List SV→List Ob→Option HCon))} {Y : List SV→Res→Option YCon} : (uo ps os Y).p=mkP ps:=(rfl)
@[go_sem] theorem Zq {ps : List (Nat×(List SV→Option Con))} {os : List (Nat×(List SV→List Ob→Option HCon))} {Y : List SV→Res→Option YCon} : (uo ps os Y).o=mkO os:=(rfl)
@[go_sem] theorem Zr {ps : List (Nat×(List SV→Option Con))} {os : List (Nat×(List SV→List Ob→Option HCon))} {Y : List SV→Res→Option YCon} : (uo ps os Y).y=Y:=(rfl)
theorem r9 {P : Program} {ps : List (Nat×(List SV→Option Con))} {os : List (Nat×(List SV→List Ob→Option HCon))} {Y : List SV→Res→Option YCon} (h1 : ∀ x∈ps,FnOk P x.1 x.2) (h2 : ∀ x∈os,FnOkO P x.1 x.2) (h3 : YOk P Y) : ConsOk P (uo ps os Y) :=⟨CE ps h1,CF os h2,h3⟩
def C90 : List SV→List Ob→Option HCon:=fun l h=> noH h ((pU fun n=> pU fun d=> pE { α:=Unit,pre:=True,post:=fun _=> True,res:=fun _=> .ret (.fn 190 [] [.ptr 0 0,.ptr 1 0]) [.cells [.v (.int .u64 n)],.cells [.v (.int .u64 d)]]}) l)
theorem R3 : FnOkO Tryz.prog 184 C90:=by
 have hG : ConsOk Tryz.prog (mkG [] []) :=aQ (by simp) (by simp)
 refine vU mixed aH hG (fn:=Tryz.f184) (c:=an Tryz.f184) (by kernel_rfl) (by kernel_rfl) (by kernel_rfl) (by kernel_rfl) fun l o con h hp=> ?_
 unfold C90 at h
 obtain ⟨rfl,h⟩ :=L9 h
 obtain ⟨n,l0,rfl,h0⟩ :=zb h
 obtain ⟨d,l1,rfl,h1⟩ :=zb h0
 obtain ⟨rfl,rfl⟩ :=qX h1
 refine ⟨Nat.le_of_ble_eq_true rfl,L0,by unfold an Tryz.f184;simp only [aA,and_self],?_⟩
 unfold an Tryz.f184
 simp only [go_sem,true_imp_iff,decide_eq_true_eq,Nat.reduceBEq,Nat.reduceLeDiff,Nat.reduceAdd,Nat.reduceSub,Nat.reduceMul,true_and,and_true,implies_true]
 refine ⟨(),_,_,[0,1],rfl,?_⟩
 simp only [go_sem,Nat.reduceBEq,Nat.reduceLeDiff,Nat.reduceAdd,true_and,and_true]
 exact ⟨rfl,rfl⟩
def xj : Nat→Nat→Nat→List Nat
 | 0,n,d=> if n=0 then [] else [n,d]
 | f + 1,n,d=> if n=0 then [] else n :: (if n % max d 1=0 then [d] else xj f d (n % max d 1))
def kh (f n d : Nat) : List (List SV) :=(xj f n d).map fun x=> [SV.u x]
theorem Jt (f d : Nat) : kh f 0 d=[] :=by cases f <;> rfl
theorem Ju {f n d : Nat} (hn : n≠0) (hf : d≤f) : ∃ T,kh f n d=[SV.u n] :: T∧(n % max d 1=0→T=[[SV.u d]])∧(n % max d 1≠0→∃ f',T=kh f' d (n % max d 1)∧n % max d 1≤f'∧n % max d 1 < d) :=by
 cases f with
 | zero=>
  have hd : d=0:=by omega
  subst hd
  refine ⟨[[SV.u 0]],by simp [kh,xj,hn],fun _=> rfl,fun h=> ?_⟩
  exfalso;apply h;simp [Nat.mod_one]
 | succ f=>
  by_cases h0 : n % max d 1=0
  ·exact ⟨[[SV.u d]],by simp [kh,xj,hn,h0],fun _=> rfl,fun h=> absurd h0 h⟩
  ·refine ⟨kh f d (n % max d 1),by simp [kh,xj,hn,h0],fun h=> absurd h h0,fun _=> ⟨f,rfl,?_⟩⟩
   have hlt : n % max d 1 < max d 1:=Nat.mod_lt _ (by omega)
   have hd : 1≤d:=by
    rcases Nat.eq_zero_or_pos d with h | h
    ·subst h;exfalso;apply h0;simp [Nat.mod_one]
    ·exact h
   omega
theorem Jv (n d : Nat) : ((n : Int).tmod (if (d : Int) < 1 then 1 else (d : Int)))=((n % max d 1 : Nat) : Int) :=by
 have e : (if (d : Int) < 1 then (1 : Int) else (d : Int))=((max d 1 : Nat) : Int) :=by split <;> omega
 rw [e,Int.tmod_eq_emod_of_nonneg (by omega)];rfl
open Classical in
theorem R4 (n0 d0 : Nat) : xg Tryz.prog 190 (fun y=> [y,.ptr 1 0,.ptr 2 0]) [.cells [SV.u n0],.cells [SV.u d0]] (kh d0 n0 d0) :=by
 refine HV (fun r hr hy=> ?_) (fun args w=> by kernel_rfl)
 have hG : ConsOk Tryz.prog (uo [] [] (itY (kh d0 n0 d0) r)) :=r9 (by simp) (by simp) hy
 refine ⟨fun l h=> if l=[.os 0,.ptr 1 0,.ptr 2 0]∧h=[.ab (r 1),.cells [SV.u n0],.cells [SV.u d0]] then some { α:=Nat,pre:=True,post:=fun j=> j=0∨j=(kh d0 n0 d0).length + 1,res:=fun j=> .ret (.tup []) [.ab (r j),.dead,.dead]} else none,
  ?_,_,if_pos ⟨rfl,rfl⟩,trivial,fun j hj=> ⟨_,j,_,rfl,hj⟩⟩
 refine vU mixed aH hG (fn:=Tryz.f190) (c:=an Tryz.f190) (by kernel_rfl) (by kernel_rfl) (by kernel_rfl) (by kernel_rfl) fun l o con h hp=> ?_
 split at h
 ·rename_i hlo
  obtain ⟨rfl,rfl⟩ :=hlo
  cases h
  refine ⟨Nat.le_of_ble_eq_true rfl,fun id st=> bif Nat.beq id 0 then some { α:=Nat×Bool,pre:=lk 0 st.t= .os 0∧lk 1 st.t= .ptr 1 0∧lk 2 st.t= .ptr 2 0∧st.h=[.ab (r 1),.cells [SV.u n0],.cells [SV.u d0]],post:=fun j=> j.1=0∨j.1=(kh d0 n0 d0).length + 1,ex:=fun j=> bif j.2 then .ret else .normal,out:=fun j=> ⟨[],[.ab (r j.1),.dead,.dead]⟩ : LCon} else none,?_,?_⟩
  ·unfold an Tryz.f190
   simp only [aA,true_and,and_true]
   refine r8 mixed aH hG (by kernel_rfl) fun st lc hC hp=> ?_
   simp only [go_sem,Nat.reduceBEq,Option.some.injEq] at hC
   subst hC
   obtain ⟨t,h⟩ :=st
   dsimp only at hp
   obtain ⟨h0,h1,h2,rfl⟩ :=hp
   refine ⟨Nat×Nat×Nat×Nat,fun x=> ⟨[(0,.os 0),(1,.ptr 1 0),(2,.ptr 2 0)],[.ab (r (x.1 + 1)),.cells [SV.u x.2.2.1],.cells [SV.u x.2.2.2]]⟩,fun x=> x.2.2.2≤x.2.1∧(kh d0 n0 d0).drop x.1=kh x.2.1 x.2.2.1 x.2.2.2∧x.1≤(kh d0 n0 d0).length,fun x=> x.2.2.2,(0,d0,n0,d0),[0,1,2],⟨Nat.le_refl _,rfl,Nat.zero_le _⟩,Nat.le_refl _,?_,?_⟩
   ·simp only [go_sem,h0,h1,h2,Nat.reduceBEq,Nat.reduceLeDiff,Nat.reduceAdd,true_and,and_true]
    decide
   ·rintro ⟨k,f,n,d⟩ ⟨hf,hdrop,hk⟩
    simp only at hf hdrop hk
    refine ⟨L0,_,by simp only [aA,and_self],fun _ _ q=> q,?_⟩
    simp only [go_sem,zf hr,true_imp_iff,decide_eq_true_eq,Jv,Bool.false_eq_true,false_imp_iff,Nat.reduceBEq,Nat.reduceLeDiff,Nat.reduceAdd,Nat.reduceSub,Nat.reduceMul,true_and,and_true,implies_true]
    have hget : ∀ (l : List (List SV)) (j : Nat),l=(kh d0 n0 d0).drop k→(kh d0 n0 d0)[k + j]? =l[j]? :=fun l j e=> by rw [e,List.getElem?_drop]
    have hlen : (kh f n d).length=(kh d0 n0 d0).length - k:=by rw [←hdrop,List.length_drop]
    refine ⟨fun hn=> ?_,fun hn=> ?_⟩
    ·have hn' : n≠0:=by simpa using hn
     obtain ⟨T,e1,e2,e3⟩ :=Ju hn' hf
     have hT : (kh d0 n0 d0).drop (k + 1)=T:=by rw [←List.drop_drop,hdrop,e1];rfl
     have h0':=hget _ 0 hdrop.symm
     rw [e1] at h0'
     have hk1 : k + 1≤(kh d0 n0 d0).length:=by
      have:=(List.getElem?_eq_some_iff.1 h0').1;omega
     refine ⟨h0',⟨fun _=> ⟨by split <;> omega,rfl,fun h2=> ?_,fun h2=> ?_⟩,fun h2=> ?_⟩,?_⟩
     ·have h3 : n % max d 1=0:=by
       have:=eq_of_beq h2
       generalize n % max d 1=q at this ⊢
       omega
      have hT2:=e2 h3
      have hl2 : (kh d0 n0 d0).length=k + 2:=by
       have:=congrArg List.length hT
       rw [hT2,List.length_drop] at this
       simp at this;omega
      refine ⟨?_,⟨(k + 1 + 2,true),[0,1,2],.inr (by rw [hl2]),rfl,⟨rfl,rfl,rfl⟩,by simp [xc,yQ,ar,cj,ny,qs]⟩,⟨(0,true),[0,1,2],.inl rfl,rfl,⟨rfl,rfl,rfl⟩,by simp [xc,yQ,ar,cj,ny,qs]⟩⟩
      have : (kh d0 n0 d0)[k + 1]? =T[0]? :=by rw [←hT,List.getElem?_drop]
      rw [this,hT2];rfl
     ·have h3 : n % max d 1≠0:=fun e=> by rw [e] at h2;simp at h2
      obtain ⟨f',m1,m2,m3⟩ :=e3 h3
      exact ⟨(k + 1,f',d,n % max d 1),[0,1,2],⟨m2,by rw [hT,m1],hk1⟩,m3,⟨rfl,rfl,rfl⟩,by simp [xc,yQ,ar,cj,ny,qs,nth,gH,ren]⟩
     ·exact absurd hn (by rw [h2];simp)
     ·exact ⟨(0,false),[0,1,2],.inl rfl,rfl,⟨rfl,rfl,rfl⟩,by simp [xc,yQ,ar,cj,ny,qs]⟩
    ·have hn' : n=0:=by simpa using hn
     subst hn'
     rw [Jt] at hlen
     simp at hlen
     exact ⟨by simpa using hn,(k + 1,false),[0,1,2],.inr (by show k + 1=_;omega),rfl,⟨rfl,rfl,rfl⟩,by simp [xc,yQ,ar,cj,ny,qs]⟩
  ·unfold an Tryz.f190
   simp only [go_sem,true_imp_iff,decide_eq_true_eq,Nat.reduceBEq,Nat.reduceLeDiff,Nat.reduceAdd,Nat.reduceSub,Nat.reduceMul,true_and,and_true,implies_true]
   rintro ⟨j,b⟩ hj
   cases b
   ·simp only [go_sem]
    exact ⟨j,_,_,[0,1,2],hj,rfl,Nat.le_refl 3,by simp only [go_sem,Nat.reduceBEq,Nat.reduceLeDiff,Nat.reduceAdd,true_and,and_true];decide⟩
   ·simp only [go_sem]
    exact ⟨j,_,_,[0,1,2],hj,rfl,Nat.le_refl 3,by simp only [go_sem,Nat.reduceBEq,Nat.reduceLeDiff,Nat.reduceAdd,true_and,and_true];decide⟩
 ·cases h
end Go.Sx
end
section
namespace Go.Sx
open Go.Proofs
set_option maxRecDepth 100000
set_option linter.unusedSimpArgs false
def OX (n d : Nat) : Nat:=if d=0 then n else (xj d n d).getLastD d
def C83 : List SV→Option Con:=pU fun n=> pU fun d=> pE (.det (0≤n∧0≤d) (SV.u (OX n.toNat d.toNat)))
theorem R5 : FnOk Tryz.prog 175 C83:=by
 have hG : ConsOk Tryz.prog (mkG [] [(184,C90)]) :=aQ (by simp) (by
  intro x hx
  simp only [List.mem_cons,List.not_mem_nil,or_false] at hx
  rcases hx with rfl
  exact R3)
 refine qW false mixed aH hG (fn:=Tryz.f175) (c:=an Tryz.f175) (by kernel_rfl) (by kernel_rfl) (by kernel_rfl) (by kernel_rfl) fun l con h hp=> ?_
 unfold C83 at h
 obtain ⟨n',l0,rfl,h0⟩ :=zb h
 obtain ⟨d',l1,rfl,h1⟩ :=zb h0
 obtain ⟨rfl,rfl⟩ :=qX h1
 clear h h0 h1
 obtain ⟨hn,hd⟩ :=hp
 obtain ⟨n,rfl⟩ :=Int.eq_ofNat_of_zero_le hn
 obtain ⟨d,rfl⟩ :=Int.eq_ofNat_of_zero_le hd
 refine ⟨Nat.le_of_ble_eq_true rfl,fun id st=> bif Nat.beq id 0 then some { α:=Unit,pre:=st.h=[.cells [SV.u d],.cells [SV.u n],.cells [SV.u d]]∧lk 12 st.t= .fn 190 [] [.ptr 1 0,.ptr 2 0]∧lk 4 st.t= .ptr 0 0,post:=fun _=> True,ex:=fun _=> .normal,out:=fun _=> ⟨[(4,.ptr 0 0)],[.cells [SV.u ((xj d n d).getLastD d)],.dead,.dead]⟩ : LCon} else none,?_,?_⟩
 ·unfold an Tryz.f175
  simp only [aA,true_and,and_true]
  refine AJ mixed aH hG (by decide) (by decide) (by kernel_rfl) (by kernel_rfl) fun st lc hC hp=> ?_
  simp only [go_sem,Nat.reduceBEq,Option.some.injEq] at hC
  subst hC
  obtain ⟨t,h⟩ :=st
  dsimp only at hp
  obtain ⟨rfl,h12,h4⟩ :=hp
  refine ⟨190,[.ptr 1 0,.ptr 2 0],kh d n d,Nat,[(4,.ptr 0 0)],fun v=> [.cells [SV.u v],.dead,.dead],fun k v=> v=((xj d n d).take k).getLastD d,fun _ _=> False,d,[0,1,2],h12,rfl,Nat.le_refl _,?_,R4 n d,?_,?_,fun _ h=> h.elim,fun _ _ h=> h.elim⟩
  ·show Sub [0,1,2] 3 ⟨t,[.cells [SV.u d],.dead,.dead]⟩ ⟨[(4,.ptr 0 0)],[.cells [SV.u d],.dead,.dead]⟩
   simp only [go_sem,h4,Nat.reduceBEq,Nat.reduceLeDiff,Nat.reduceAdd,true_and,and_true]
   decide
  ·intro k y args hk hI
   unfold kh at hk
   rw [List.getElem?_map,Option.map_eq_some_iff] at hk
   obtain ⟨x,hx,rfl⟩ :=hk
   refine ⟨rfl,L0,_,fun l=> by simp only [aA],fun l=> by simp only [aA],fun _ _ q=> q,?_⟩
   show exec ts _ L0 _ ⟨[(13,SV.u x),(4,SV.ptr 0 0)],[.cells [SV.u y],.dead,.dead]⟩ _
   simp only [go_sem,true_imp_iff,Nat.reduceBEq,Nat.reduceLeDiff,Nat.reduceAdd,true_and,and_true]
   refine ⟨x,[0,1,2],?_,Nat.le_refl 3,?_⟩
   ·have hlt:=(List.getElem?_eq_some_iff.1 hx).1
    have hx2:=(List.getElem?_eq_some_iff.1 hx).2
    show x=((xj d n d).take (k + 1)).getLastD d
    rw [List.take_succ_eq_append_getElem hlt,hx2]
    simp [List.getLastD_concat]
   ·simp only [go_sem,Nat.reduceBEq,Nat.reduceLeDiff,Nat.reduceAdd,true_and,and_true]
    decide
  ·intro y hI
   refine ⟨(),[0,1,2],trivial,rfl,Nat.le_refl _,?_⟩
   have hy : y=(xj d n d).getLastD d:=by rw [hI,List.take_of_length_le (by simp [kh])]
   subst hy
   show Sub [0,1,2] 3 ⟨[(4,.ptr 0 0)],[.cells [SV.u _],.dead,.dead]⟩ ⟨[(4,.ptr 0 0)],[.cells [SV.u _],.dead,.dead]⟩
   simp only [go_sem,Nat.reduceBEq,Nat.reduceLeDiff,Nat.reduceAdd,true_and,and_true]
   decide
 ·unfold an Tryz.f175
  simp only [go_sem,C90,true_imp_iff,decide_eq_true_eq,Bool.false_eq_true,false_imp_iff,Nat.reduceBEq,Nat.reduceLeDiff,Nat.reduceAdd,Nat.reduceSub,Nat.reduceMul,true_and,and_true,implies_true]
  refine ⟨fun h=> ?_,fun h _ _=> ?_⟩
  ·have h' : d=0:=by simpa using h
   simp [OX,h']
  ·have h' : d≠0:=by simpa using h
   simp [OX,h']
attribute [go_sem] C83
end Go.Sx
end
section
namespace Go.Sx
open Go.RowKit
inductive NilS : St→St→Prop where
 | refl (st : St) : NilS st st
 | cell {st : St} {t : List (Nat×SV)} {h : List Ob} {i j : Nat} {l : List SV} (o : Ob) : NilS st ⟨t,h⟩→ar h i= .cells l→l[j]? =some (.v (.slice none 0 0))→((∃ k,o= .row k [])∨∃ k,o= .grid k [])→NilS st ⟨t,bU h i (.cells (l.set j (.os h.length))) ++ [o]⟩
 | slot {st : St} {t : List (Nat×SV)} {h : List Ob} {i : Nat} (o : Ob) : NilS st ⟨t,h⟩→lk i t= .v (.slice none 0 0)→((∃ k,o= .row k [])∨∃ k,o= .grid k [])→NilS st ⟨(i,.os h.length) :: t,h ++ [o]⟩
section
variable {P : Program} {F : Nat→Prop} {w0 : Bs} {N : Nat}
theorem Gs (h : List Ob) (o : Ob) : ar (h ++ [o]) h.length=o:=by rw [lg,if_neg (by omega)];simp [ar]
theorem E8 {own : Own} {h : List Ob} {a : Act} {w : World} {t : List (Nat×SV)} (hr : StRel F w0 N own ⟨t,h⟩ a w) (o : Ob) (ho : (∃ k,o= .row k [])∨∃ k,o= .grid k []) :
  ∃ own',StRel F w0 N own' ⟨t,h ++ [o]⟩ a w∧(∀ id hd,own id=some hd→own' id=some hd)∧own' h.length=some { v:= .slice none 0 0} :=by
 let own' : Own:=fun id=> if id=h.length then some { v:= .slice none 0 0} else own id
 have hsub : ∀ id hd,own id=some hd→own' id=some hd:=fun id hd e=> by
  have : id≠h.length:=by have:=hr.hp.dom id hd e;simp only at this;omega
  simp only [own',if_neg this];exact e
 have hinv : ∀ id hd b,own' id=some hd→b∈hd.bs→own id=some hd:=fun id hd b e hb=> by
  by_cases hi : id=h.length
  ·simp only [own',if_pos hi,Option.some.injEq] at e;subst e;cases hb
  ·simpa only [own',if_neg hi] using e
 have hc : Carries F own w F own' w:=⟨fun id hd e=> ⟨hd,hsub id hd e,.refl _⟩,fun b _ hn=> ⟨by
  rintro (hf | ⟨id,hd,e,hb⟩)
  ·exact hn (.inl hf)
  ·exact hn (.inr ⟨id,hd,hinv id hd b e hb,hb⟩),rfl⟩⟩
 refine ⟨own',⟨hr.size,hr.defers,⟨fun id hd e=> ?_,hr.hp.foreign,fun id hd b e hb=> hr.hp.apart id hd b (hinv id hd b e hb) hb,fun i j hi hj b e1 e2 b1 b2=> hr.hp.inj i j hi hj b (hinv i hi b e1 b1) (hinv j hj b e2 b2) b1 b2,fun id hd b e hb=> hr.hp.lt id hd b (hinv id hd b e hb) hb,fun id hd=> ?_⟩,
  ⟨fun id hd e=> ?_,fun id hd b e hb=> hr.fr.base id hd b (hinv id hd b e hb) hb,hr.fr.os,hr.fr.tape,hr.fr.output,hr.fr.size,hr.fr.block⟩,fun t=> (hr.slots t).carry hc⟩,hsub,by simp [own']⟩
 ·simp only [List.length_append,List.length_cons,List.length_nil]
  by_cases hi : id=h.length
  ·omega
  ·simp only [own',if_neg hi] at e;have:=hr.hp.dom id hd e;simp only at this;omega
 ·simp only at hd ⊢
  by_cases hi : id < h.length
  ·rw [lg,if_pos hi] at hd ⊢
   obtain ⟨hd',e1,e2⟩ :=hr.hp.obs id hd
   exact ⟨hd',hsub id hd' e1,e2.carry hc (Nat.le_refl _) fun _ _=> rfl⟩
  ·by_cases hi2 : id=h.length
   ·subst hi2
    rw [Gs]
    refine ⟨_,by simp [own'];rfl,?_⟩
    rcases ho with ⟨k,rfl⟩ | ⟨k,rfl⟩
    ·exact .inl ⟨none,rfl,rfl,rfl⟩
    ·exact .inl ⟨rfl,rfl,rfl,rfl⟩
   ·rw [mL (by simp;omega)] at hd;cases hd
 ·obtain ⟨hd',e1,e2⟩ :=hr.fr.ids id hd e
  exact ⟨hd',hsub id hd' e1,e2⟩
theorem NilS.rel {st st' : St} (hn : NilS st st') {own : Own} {a : Act} {w : World} (hr : StRel F w0 N own st a w) : ∃ own',StRel F w0 N own' st' a w:=by
 induction hn with
 | refl=> exact ⟨own,hr⟩
 | @slot t h i o _ hl ho ih=>
  obtain ⟨own1,h1⟩ :=ih
  obtain ⟨own2,h2,h3,h4⟩ :=E8 h1 o ho
  refine ⟨own2,h2.size,h2.defers,h2.hp,h2.fr,fun u=> ?_⟩
  rw [kg]
  split
  ·rename_i e
   subst e
   have:=h1.slots i
   rw [hl] at this
   rw [bJ this]
   exact .os (hd:= { v:= .slice none 0 0}) h4 rfl
  ·exact h2.slots u
 | @cell t h i j l o _ hc hl ho ih=>
  obtain ⟨own1,h1⟩ :=ih
  obtain ⟨own2,h2,h3,h4⟩ :=E8 h1 o ho
  have hlt : i < h.length:=by
   rcases Nat.lt_or_ge i h.length with h' | h'
   ·exact h'
   ·rw [mL h'] at hc;cases hc
  have hlen : (bU h i (.cells (l.set j (.os h.length)))).length=h.length:=by rw [bZ,if_pos hlt]
  refine ⟨own2,h2.size,h2.defers,⟨fun id hd e=> ?_,h2.hp.foreign,h2.hp.apart,h2.hp.inj,h2.hp.lt,fun id hd=> ?_⟩,h2.fr,h2.slots⟩
  ·have:=h2.hp.dom id hd e;simp only [List.length_append] at this ⊢;rw [hlen];exact this
  ·simp only at hd ⊢
   have hob:=h2.hp.obs id
   simp only at hob
   by_cases hi : id < h.length
   ·rw [lg,if_pos (by rw [hlen];exact hi)] at hd ⊢
    rw [lg,if_pos hi] at hob
    rw [cU] at hd ⊢
    by_cases hii : i=id
    ·subst hii
     rw [if_pos rfl] at hd ⊢
     rw [hc] at hob
     obtain ⟨hd',e1,b,cs,ty,m1,m2,m3,m4,m5⟩ :=hob rfl
     refine ⟨hd',e1,b,cs,ty,m1,m2,m3,by simpa using m4,fun j' s hs=> ?_⟩
     rw [List.getElem?_set] at hs
     by_cases hj : j=j'
     ·subst hj
      rw [if_pos rfl] at hs
      split at hs
      ·cases hs
       have:=m5 j _ hl
       rw [bJ this]
       exact .os (hd:= { v:= .slice none 0 0}) h4 rfl
      ·cases hs
     ·rw [if_neg hj] at hs
      exact m5 j' s hs
    ·rw [if_neg hii] at hd ⊢
     exact hob hd
   ·rw [lg,if_neg (by rw [hlen];exact hi),hlen] at hd ⊢
    rw [lg,if_neg hi] at hob
    exact hob hd
end
section
variable {P : Program} {F : Nat→Prop} {w0 : Bs} {ro : Option Nat} {nd : Nat} {ts : Tis} {G : Cons} {L : nS} {N : Nat}
theorem oO {ts : Tis} {G : Cons} {ro : Option Nat} {N : Nat} (hm : P.follows .mixedOrders=true) (hts : ts.ok P) (hG : ConsOk P G) {id : Nat} {c : Code} (hc : bY N c=true) {C : St→Option LCon}
  (h : ∀ st lc,C st=some lc→lc.pre→∃ (σ : Type) (D : σ→St) (I : σ→Prop) (m : σ→Nat) (x0 : σ) (stN : St) (js : List Nat),I x0∧NilS st stN∧st.h.length≤(D x0).h.length∧Sub js st.h.length stN (D x0)∧
   ∀ x,I x→∃ L Qx,aA P ro N L c∧(∀ e st',Qx e st'→nA D I m st.h.length x id (fun e st'=> ∃ r js,lc.post r∧lc.ex r=e∧st.h.length≤(lc.out r).h.length∧Sub js st.h.length st' (lc.out r)) e st')∧exec ts G L c (D x) Qx) : gN P ro N id (.loop c) C:=by
 intro nd F w0 st lc hC hpre own a w hr
 obtain ⟨σ,D,I,m,x0,stN,js,h1,hN,h2,h3,h4⟩ :=h st lc hC hpre
 obtain ⟨ownN,hrN⟩ :=hN.rel hr
 refine wpIn_mono (xZ hm hts hG hc D I m st.h.length hr.base_lt _ h4 x0 h1 _ a w (hrN.sub h3 hr.base_lt h2)) ?_
 intro e a' w' hq
 have key : ∀ ex F1 own' st',StRel F1 w0 N own' st' a' w'→(∃ r js,lc.post r∧lc.ex r=ex∧st.h.length≤(lc.out r).h.length∧Sub js st.h.length st' (lc.out r))→∃ own2 st2,StRel F1 w0 N own2 st2 a' w'∧∃ r,lc.post r∧ex=lc.ex r∧st2=lc.out r:=by
  rintro ex F1 own' st' hst ⟨r,js,q1,q2,q3,q4⟩
  exact ⟨_,_,hst.sub q4 hr.base_lt q3,r,q1,q2.symm,rfl⟩
 cases e with
 | normal=> obtain ⟨F1,own',st',h0,k1,k2⟩ :=hq;obtain ⟨own2,st2,q1,q2⟩ :=key _ F1 own' st' k1 k2;exact ⟨F1,own2,st2,h0,q1,q2⟩
 | exit j=> obtain ⟨F1,own',st',h0,k1,k2⟩ :=hq;obtain ⟨own2,st2,q1,q2⟩ :=key _ F1 own' st' k1 k2;exact ⟨F1,own2,st2,h0,q1,q2⟩
 | ret=> obtain ⟨F1,own',st',h0,k1,k2⟩ :=hq;obtain ⟨own2,st2,q1,q2⟩ :=key _ F1 own' st' k1 k2;exact ⟨F1,own2,st2,h0,q1,q2⟩
 | panic ch=>
  obtain ⟨x,F1,own',st',h0,k1,k2,k3⟩ :=hq
  obtain ⟨own2,st2,q1,q2⟩ :=key _ F1 own' st' k1 k2
  exact ⟨x,F1,own2,st2,h0,q1,q2,k3⟩
 | _=> exact hq.elim
end
section
variable {P : Program} {ρ σ : Type}
def fw (st2 : St) (n0 : Nat) (st : St) : Prop:= ∃ js,n0≤st2.h.length∧Sub js n0 st st2
theorem zh {st2 st : St} {n0 : Nat} (js : List Nat) (h1 : n0≤st2.h.length) (h2 : Sub js n0 st st2) : fw st2 n0 st:=⟨js,h1,h2⟩
def mS (D : Nat→σ→St) (n0 k : Nat) (st : St) : ρ⊕σ→Prop
 | .inl _=> False
 | .inr s'=> fw (D (k + 1) s') n0 st
def iJ (exE : ρ→Ex) (outE : ρ→St) (n0 : Nat) (e : Ex) (st : St) : ρ⊕σ→Prop
 | .inl x=> exE x=e∧fw (outE x) n0 st
 | .inr _=> False
def cE (step : Nat→σ→ρ⊕σ) (n : Nat) (exE : ρ→Ex) (outE : ρ→St) (outN : σ→St) (D : Nat→σ→St) (n0 id k : Nat) (s : σ) : Ex→St→Prop
 | .normal,st=> k < n∧mS D n0 k st (step k s)
 | .exit j,st=> bif Nat.beq j id then (n≤k→fw (outN s) n0 st)∧(k < n→iJ exE outE n0 .normal st (step k s)) else k < n∧iJ exE outE n0 (.exit j) st (step k s)
 | .ret,st=> k < n∧iJ exE outE n0 .ret st (step k s)
 | .pan x,st=> k < n∧iJ exE outE n0 (.pan x) st (step k s)
variable {step : Nat→σ→ρ⊕σ} {n n0 id k j : Nat} {exE : ρ→Ex} {outE : ρ→St} {outN : σ→St} {D : Nat→σ→St} {s s' : σ} {st : St} {x : Value} {e : Ex} {y : ρ}
@[go_sem] theorem Ub : mS (ρ:=ρ) D n0 k st (.inr s')=fw (D (k + 1) s') n0 st:=(rfl)
@[go_sem] theorem VN : iJ (σ:=σ) exE outE n0 e st (.inl y)=(exE y=e∧fw (outE y) n0 st) :=(rfl)
@[go_sem] theorem Uc : cE step n exE outE outN D n0 id k s .normal st=(k < n∧mS D n0 k st (step k s)) :=(rfl)
@[go_sem] theorem Xo : cE step n exE outE outN D n0 id k s (.exit j) st=bif Nat.beq j id then (n≤k→fw (outN s) n0 st)∧(k < n→iJ exE outE n0 .normal st (step k s)) else k < n∧iJ exE outE n0 (.exit j) st (step k s) :=(rfl)
@[go_sem] theorem Zs : cE step n exE outE outN D n0 id k s .ret st=(k < n∧iJ exE outE n0 .ret st (step k s)) :=(rfl)
@[go_sem] theorem Zt : cE step n exE outE outN D n0 id k s (.pan x) st=(k < n∧iJ exE outE n0 (.pan x) st (step k s)) :=(rfl)
@[congr] theorem Qo {r r' : ρ⊕σ} (h : r=r') : mS D n0 k st r=mS D n0 k st r':=by rw [h]
end
def nG (p : Prop) (S : SV) (H : List Ob) : HCon:= { α:=Unit,pre:=p,post:=fun _=> True,res:=fun _=> .ret S H}
def Jw (n0 : Nat) (S : SV) (H : List Ob) (h : List Ob) : Option SV→Prop
 | some s=> fw ⟨[(0,S)],H⟩ n0 ⟨[(0,s)],h⟩
 | none=> False
def Qp (n0 : Nat) (rs : List ResultVar) (ts : Tis) (S : SV) (H : List Ob) : Ex→St→Prop
 | .exit _,_=> False
 | .normal,st=> Jw n0 S H st.h (je (ib ts st rs))
 | .ret,st=> Jw n0 S H st.h (je (ib ts st rs))
 | .pan _,_=> False
section
variable {P : Program} {ts : Tis} {G : Cons} {n0 : Nat} {S s : SV} {H h : List Ob} {rs : List ResultVar} {st : St} {x : Value} {j : Nat}
@[go_sem] theorem Ud : Jw n0 S H h (some s)=fw ⟨[(0,S)],H⟩ n0 ⟨[(0,s)],h⟩ :=(rfl)
@[go_sem] theorem OY : Qp n0 rs ts S H .normal st=Jw n0 S H st.h (je (ib ts st rs)) :=(rfl)
@[go_sem] theorem Ue : Qp n0 rs ts S H .ret st=Jw n0 S H st.h (je (ib ts st rs)) :=(rfl)
@[go_sem high] theorem R6 {p : Prop} {ids : List Nat} {d : Option Nat} {K : St→Prop} {Z : Value→St→Prop} : ow ids d st K Z (some (nG p S H))=(p∧BX ids d st K Z (.ret S H)) :=by
 show (p∧∀ r : Unit,True→BX ids d st K Z (.ret S H))=_
 simp
@[go_sem] theorem VO {nx : Nat} : fq G h nx .bad=none:=(rfl)
def hCR (t : Tag) (k : List t.T→Option HCon) : List Ob→Option HCon
 | [.cells [.os 1],.row k' l] => if h : k'=t then k (h▸l) else none
 | _=> none
open Classical in
noncomputable def pQ {α : Type 1} (X : SV) (k : List SV→Option α) : List SV→Option α
 | s :: r=> if s=X then k r else none
 | [] => none
@[go_sem] theorem pQ_mk {α : Type 1} {X : SV} {k : List SV→Option α} {r : List SV} : pQ X k (X :: r)=k r:=by simp [pQ]
theorem zi {α : Type 1} {X : SV} {k : List SV→Option α} {l : List SV} {c : α} (h : pQ X k l=some c) : ∃ r,l=X :: r∧k r=some c:=by
 unfold pQ at h;split at h
 ·split at h
  ·rename_i e;subst e;exact ⟨_,rfl,h⟩
  ·cases h
 ·cases h
def pXR {α : Type 1} (t : Tag) (k : List t.T→List SV→Option α) : List SV→Option α
 | .ep [.rs k' l] 0 :: r=> x6 t k r k' l
 | _=> none
@[go_sem] theorem Zu {α : Type 1} {t : Tag} {k : List t.T→List SV→Option α} {l : List t.T} {r : List SV} : pXR t k (.ep [.rs t l] 0 :: r)=k l r:=by simp [pXR,x6]
theorem OZ {α : Type 1} {t : Tag} {k : List t.T→List SV→Option α} {l : List SV} {c : α} (h : pXR t k l=some c) : ∃ x r,l= .ep [.rs t x] 0 :: r∧k x r=some c:=by
 unfold pXR at h;split at h
 ·rename_i k' l' r
  unfold x6 at h
  split at h
  ·rename_i e;subst e;exact ⟨_,_,rfl,h⟩
  ·cases h
 ·cases h
end
end Go.Sx
end
section
namespace Go.Sx
attribute [go_sem] true_imp_iff false_imp_iff Bool.false_eq_true Int.toNat_natCast Int.toNat_zero true_and and_true and_self implies_true forall_const
theorem cl {p : Prop} (h : p:=by (first | done | (repeat' (first | with_reducible refine And.intro ?_ ?_ | ((with_reducible show _≠_);first | assumption | omega | (simp_all [aG,aM];done) | grind) | with_reducible intro _)) <;> (first | done | exact Empty.elim ‹Empty› | assumption | rfl | omega | (simp only [*,cond_true,cond_false,Bool.not_true,Bool.not_false,go_sem,Nat.reduceBEq,Nat.reduceLeDiff,Nat.reduceAdd,Nat.reduceSub,Nat.reduceMul,Int.reduceLE,Int.reduceLT,Int.reduceToNat,Int.reduceNeg,reduceCtorEq];done) | (simp only [*,cond_true,cond_false,Bool.not_true,Bool.not_false,go_sem,Nat.reduceBEq,Nat.reduceLeDiff,Nat.reduceAdd,Nat.reduceSub,Nat.reduceMul,Int.reduceLE,Int.reduceLT,Int.reduceToNat,Int.reduceNeg,reduceCtorEq];(repeat' (first | with_reducible refine And.intro ?_ ?_ | ((with_reducible show _≠_);first | assumption | omega | (simp_all [aG,aM];done) | grind) | with_reducible intro _)) <;> (first | done | assumption | rfl | omega | (simp_all [aG,aM];done))) | (simp_all [okI,aG,aM];done) | grind))) : p:=h
theorem cl2 {p : Prop} (h : p:=by (first | done | (repeat' (first | with_reducible refine And.intro ?_ ?_ | ((with_reducible show _≠_);first | assumption | omega | (simp_all [aG,aM];done) | grind) | with_reducible intro _)) <;> (first | done | exact Empty.elim ‹Empty› | assumption | rfl | omega | (simp only [*,go_sem,Nat.reduceBEq,Nat.reduceLeDiff,Nat.reduceAdd,Nat.reduceSub,Nat.reduceMul,Int.reduceLE,Int.reduceLT,Int.reduceToNat,Int.reduceNeg,reduceCtorEq];done) | (simp_all [aG,aM];done)))) : p:=h
theorem fk {st2 st : St} {n0 : Nat} (js : List Nat) (h1 : n0≤st2.h.length:=by (first | (show _≤_;decide) | (simp only [*,go_sem,Nat.reduceBEq,Nat.reduceLeDiff,Nat.reduceAdd,Nat.reduceSub,Nat.reduceMul,Int.reduceLE,Int.reduceLT,Int.reduceToNat,Int.reduceNeg,reduceCtorEq];done) | (simp only [*,go_sem,Nat.reduceBEq,Nat.reduceLeDiff,Nat.reduceAdd,Nat.reduceSub,Nat.reduceMul,Int.reduceLE,Int.reduceLT,Int.reduceToNat,Int.reduceNeg,reduceCtorEq];(repeat' (first | with_reducible refine And.intro ?_ ?_ | ((with_reducible show _≠_);first | assumption | omega | (simp_all [aG,aM];done) | grind) | with_reducible intro _)) <;> (first | rfl | decide | assumption | omega | (simp_all [aG,aM];done))))) (h2 : Sub js n0 st st2:=by (first | (show _≤_;decide) | (simp only [*,go_sem,Nat.reduceBEq,Nat.reduceLeDiff,Nat.reduceAdd,Nat.reduceSub,Nat.reduceMul,Int.reduceLE,Int.reduceLT,Int.reduceToNat,Int.reduceNeg,reduceCtorEq];done) | (simp only [*,go_sem,Nat.reduceBEq,Nat.reduceLeDiff,Nat.reduceAdd,Nat.reduceSub,Nat.reduceMul,Int.reduceLE,Int.reduceLT,Int.reduceToNat,Int.reduceNeg,reduceCtorEq];(repeat' (first | with_reducible refine And.intro ?_ ?_ | ((with_reducible show _≠_);first | assumption | omega | (simp_all [aG,aM];done) | grind) | with_reducible intro _)) <;> (first | rfl | decide | assumption | omega | (simp_all [aG,aM];done))))) : fw st2 n0 st:=zh js h1 h2
theorem fk2 {st2 st : St} {n0 : Nat} (js : List Nat) (h1 : n0≤st2.h.length:=by (first | (show _≤_;decide) | (simp only [go_sem,Nat.reduceBEq,Nat.reduceLeDiff,Nat.reduceAdd,Nat.reduceSub,Nat.reduceMul,Int.reduceLE,Int.reduceLT,Int.reduceToNat,Int.reduceNeg,reduceCtorEq];(repeat' (first | with_reducible refine And.intro ?_ ?_ | ((with_reducible show _≠_);first | assumption | omega | (simp_all [aG,aM];done) | grind) | with_reducible intro _)) <;> (first | rfl | decide | assumption | omega | (simp_all [aG,aM];done))))) (h2 : Sub js n0 st st2:=by (first | (show _≤_;decide) | (simp only [go_sem,Nat.reduceBEq,Nat.reduceLeDiff,Nat.reduceAdd,Nat.reduceSub,Nat.reduceMul,Int.reduceLE,Int.reduceLT,Int.reduceToNat,Int.reduceNeg,reduceCtorEq];(repeat' (first | with_reducible refine And.intro ?_ ?_ | ((with_reducible show _≠_);first | assumption | omega | (simp_all [aG,aM];done) | grind) | with_reducible intro _)) <;> (first | rfl | decide | assumption | omega | (simp_all [aG,aM];done))))) : fw st2 n0 st:=zh js h1 h2
theorem cg0 {α : Type _} {p : α→Prop} : ∀ x∈([] : List α),p x:=fun _ h=> by cases h
theorem cgc {α : Type _} {p : α→Prop} {a : α} {l : List α} (h : p a) (t : ∀ x∈l,p x) : ∀ x∈a :: l,p x:=fun x hx=> by
 rcases List.mem_cons.1 hx with rfl | hx
 ·exact h
 ·exact t x hx
attribute [go_sem] if_true
end Go.Sx
end
section
namespace Go.Sx
open Go.RowKit
section
variable {P : Program}
end
end Go.Sx
end
section
namespace Go.Sx
open Go.RowKit
def okL {ρ σ τ : Type} (step : τ→σ→ρ⊕σ) (p : τ→σ→Prop) : List τ→σ→Prop
 | [],_=> True
 | x :: l,s=> p x s∧∀ s',step x s= .inr s'→okL step p l s'
theorem uM {ρ σ τ : Type} {step : τ→σ→ρ⊕σ} {p : τ→σ→Prop} : ∀ (l : List τ) (s : σ),(∀ x∈l,∀ s,p x s)→okL step p l s
 | [],_,_=> trivial
 | x :: l,s,h=> ⟨h x (by simp) s,fun s' _=> uM l s' fun y hy=> h y (by simp [hy])⟩
section
variable {ρ σ τ : Type}
def rgN (T : List (Nat×SV)) (H : σ→List Ob) (n0 : Nat) (st : St) : ρ⊕σ→Prop
 | .inl _=> False
 | .inr s'=> fw ⟨T,H s'⟩ n0 ⟨T,st.h⟩
def rgX (exE : ρ→Ex) (T : List (Nat×SV)) (Hy : ρ→List Ob) (n0 : Nat) (e : Ex) (st : St) : ρ⊕σ→Prop
 | .inl y=> exE y=e∧fw ⟨T,Hy y⟩ n0 ⟨T,st.h⟩
 | .inr _=> False
def rgQ (step : τ→σ→ρ⊕σ) (exE : ρ→Ex) (T : List (Nat×SV)) (H : σ→List Ob) (Hy : ρ→List Ob) (n0 id : Nat) (x : τ) (s : σ) : Ex→St→Prop
 | .normal,st=> rgN T H n0 st (step x s)
 | .exit j,st=> rgX exE T Hy n0 (bif Nat.beq j id then .normal else .exit j) st (step x s)
 | .ret,st=> rgX exE T Hy n0 .ret st (step x s)
 | .pan _,_=> False
variable {step : τ→σ→ρ⊕σ} {exE : ρ→Ex} {T : List (Nat×SV)} {H : σ→List Ob} {Hy : ρ→List Ob} {n0 id j : Nat} {x : τ} {s s' : σ} {y : ρ} {st : St} {e : Ex}
@[go_sem] theorem Xp : rgN (ρ:=ρ) T H n0 st (.inr s')=fw ⟨T,H s'⟩ n0 ⟨T,st.h⟩ :=(rfl)
@[go_sem] theorem Xq : rgX (σ:=σ) exE T Hy n0 e st (.inl y)=(exE y=e∧fw ⟨T,Hy y⟩ n0 ⟨T,st.h⟩) :=(rfl)
@[go_sem] theorem R7 : rgQ step exE T H Hy n0 id x s .normal st=rgN T H n0 st (step x s) :=(rfl)
@[go_sem] theorem Xr : rgQ step exE T H Hy n0 id x s .ret st=rgX exE T Hy n0 .ret st (step x s) :=(rfl)
@[go_sem] theorem VP : rgQ step exE T H Hy n0 id x s (.exit j) st=rgX exE T Hy n0 (bif Nat.beq j id then .normal else .exit j) st (step x s) :=(rfl)
@[congr] theorem Uf {r r' : ρ⊕σ} (h : r=r') : rgN T H n0 st r=rgN T H n0 st r':=by rw [h]
@[congr] theorem Ug {r r' : ρ⊕σ} {e e' : Ex} (h : r=r') (he : e=e') : rgX exE T Hy n0 e st r=rgX exE T Hy n0 e' st r':=by rw [h,he]
end
section
variable {P : Program} {ts : Tis} {G : Cons} {N : Nat}
theorem mT (hm : P.follows .mixedOrders=true) (hts : ts.ok P) (hG : ConsOk P G) {id : Nat} {g : Operand} {ps : Array Tmp} {assign body : Code} {C : St→Option LCon}
  (hpn : ps.toList.Nodup) (hpN : ∀ p∈ps.toList,p < N) (hca : bY N assign=true) (hcb : bY N body=true)
  (h : ∀ st lc,C st=some lc→lc.pre→∃ (f : FuncId) (caps : List SV) (τ ρ σ : Type) (l : List τ) (mk : τ→List SV) (step : τ→σ→ρ⊕σ) (p : τ→σ→Prop) (pre : Prop) (s0 : σ) (exE : ρ→Ex) (outE : ρ→St) (outN : σ→St) (T : List (Nat×SV)) (H : σ→List Ob) (Hy : ρ→List Ob) (js : List Nat),
   raw st.t g= .fn f [] caps∧lc=LC pre (cq step l s0) exE outE outN∧okL step p l s0∧st.h.length≤(H s0).length∧Sub js st.h.length ⟨st.t,nU (iI st caps) st.h⟩ ⟨T,H s0⟩∧
   xg P f (fun y=> y :: caps.map (ren (Gp (iI st caps)) 3)) (CH (iI st caps) st.h) (l.map mk)∧
   (∀ x s,p x s→(mk x).length=ps.size∧∃ L,(∀ l,aA P (some l) N L assign)∧(∀ l,aA P (some l) N L body)∧exec ts G L assign ⟨psT ps.toList (mk x) ++ T,H s⟩ (fun e st1=> e= .normal∧exec ts G L body st1 (rgQ step exE T H Hy st.h.length id x s)))∧
   (∀ s,fw (outN s) st.h.length ⟨T,H s⟩)∧∀ y,fw (outE y) st.h.length ⟨T,Hy y⟩) : gN P none N id (.rangeFunc g ps assign body) C:=by
 refine AJ hm hts hG hpn hpN hca hcb fun st lc hC hp=> ?_
 obtain ⟨f,caps,τ,ρ,σ,l,mk,step,p,pre,s0,exE,outE,outN,T,H,Hy,js,h1,rfl,h2,h3,h4,h5,h6,h7,h8⟩ :=h st lc hC hp
 refine ⟨f,caps,l.map mk,σ⊕ρ,T,fun z=> match z with | .inl s=> H s | .inr y=> Hy y,fun k z=> match z with | .inl s=> cq step (l.drop k) s=cq step l s0∧okL step p (l.drop k) s | .inr _=> False,
  fun e z=> match z with | .inl _=> False | .inr y=> cq step l s0= .inl y∧(match e with | .ret=> exE y= .ret | .exit j=> exE y=(bif Nat.beq j id then .normal else .exit j) | _=> False),.inl s0,js,h1,⟨rfl,h2⟩,h3,h4,h5,?_,?_,?_,?_⟩
 ·rintro k z args hk hI
  cases z with
  | inr y=> exact hI.elim
  | inl s=>
   obtain ⟨hrun,hok⟩ :=hI
   rw [List.getElem?_map,Option.map_eq_some_iff] at hk
   obtain ⟨x,hx,rfl⟩ :=hk
   have hlt:=(List.getElem?_eq_some_iff.1 hx).1
   have hd : l.drop k=x :: l.drop (k + 1) :=by
    rw [List.drop_eq_getElem_cons hlt];congr 1;exact (List.getElem?_eq_some_iff.1 hx).2
   rw [hd] at hrun hok
   obtain ⟨hl,L,hla,hlb,hex⟩ :=h6 x s hok.1
   refine ⟨hl,L,_,hla,hlb,?_,hex⟩
   intro e st' hq
   have fin : ∀ e',rgX exE T Hy st.h.length e' st' (step x s)→∃ y js,exE y=e'∧cq step l s0= .inl y∧st.h.length≤(Hy y).length∧Sub js st.h.length ⟨T,st'.h⟩ ⟨T,Hy y⟩ :=by
    intro e' q
    cases hs : step x s with
    | inr s'=> rw [hs] at q;exact q.elim
    | inl y=>
     rw [hs] at q
     obtain ⟨q1,js,q2,q3⟩ :=q
     simp only [cq,hs] at hrun
     exact ⟨y,js,q1,hrun.symm,q2,q3⟩
   cases e with
   | normal=>
    change rgN T H st.h.length st' (step x s) at hq
    cases hs : step x s with
    | inl y=> rw [hs] at hq;exact hq.elim
    | inr s'=>
     rw [hs] at hq
     obtain ⟨js,q1,q2⟩ :=hq
     simp only [cq,hs] at hrun
     exact ⟨.inl s',js,⟨hrun,hok.2 s' hs⟩,q1,q2⟩
   | exit j=>
    obtain ⟨y,js,q1,q2,q3,q4⟩ :=fin _ hq
    exact ⟨.inr y,js,⟨q2,q1⟩,q3,q4⟩
   | ret=>
    obtain ⟨y,js,q1,q2,q3,q4⟩ :=fin _ hq
    exact ⟨.inr y,js,⟨q2,q1⟩,q3,q4⟩
   | pan x=> exact hq.elim
 ·intro z hI
  cases z with
  | inr y=> exact hI.elim
  | inl s=>
   obtain ⟨js,q1,q2⟩ :=h7 s
   have:=hI.1
   rw [List.length_map,List.drop_length] at this
   exact ⟨.inr s,js,this,rfl,q1,q2⟩
 ·intro z hS
  cases z with
  | inl s=> exact hS.elim
  | inr y=>
   obtain ⟨js,q1,q2⟩ :=h8 y
   exact ⟨.inl y,js,hS.1.symm,hS.2,q1,q2⟩
 ·intro j z hS
  cases z with
  | inl s=> exact hS.elim
  | inr y=>
   obtain ⟨js,q1,q2⟩ :=h8 y
   refine ⟨.inl y,js,hS.1.symm,?_,q1,q2⟩
   have:=hS.2
   show exE y=_
   rw [this]
   by_cases hj : j=id
   ·rw [if_pos hj]
    have hb : Nat.beq j id=true:=by rw [hj];exact Nat.beq_refl id
    rw [hb];rfl
   ·rw [if_neg hj]
    cases hb : Nat.beq j id with
    | true=> exact absurd (Nat.eq_of_beq_eq_true hb) hj
    | false=> rfl
end
end Go.Sx
end
section
namespace Go.Sx
open Go.RowKit
section
variable {P : Program} {ρ σ τ : Type}
def qY : Ob→Option Nat
 | .mi _ _ _ c=> c
 | _=> none
def nxC (step : τ→σ→ρ⊕σ) (l : List τ) (d : τ) (D : List Nat→Option Nat→σ→St) (n0 : Nat) (left : List Nat) (s : σ) (st : St) : Option Nat→Prop
 | some j=> j∈left∧mS (fun _ s'=> D (left.erase j) (some j) s') n0 0 st (step (l.getD j d) s)
 | none=> False
def exC (step : τ→σ→ρ⊕σ) (l : List τ) (d : τ) (exE : ρ→Ex) (outE : ρ→St) (n0 : Nat) (left : List Nat) (s : σ) (e : Ex) (st : St) : Option Nat→Prop
 | some j=> j∈left∧iJ exE outE n0 e st (step (l.getD j d) s)
 | none=> False
def cM (step : τ→σ→ρ⊕σ) (l : List τ) (d : τ) (exE : ρ→Ex) (outE : ρ→St) (outN : σ→St) (D : List Nat→Option Nat→σ→St) (n0 id it : Nat) (left : List Nat) (s : σ) : Ex→St→Prop
 | .normal,st=> nxC step l d D n0 left s st (qY (ar st.h it))
 | .exit j,st=> bif Nat.beq j id then (left=[]→fw (outN s) n0 st)∧(left≠[]→exC step l d exE outE n0 left s .normal st (qY (ar st.h it))) else exC step l d exE outE n0 left s (.exit j) st (qY (ar st.h it))
 | .ret,st=> exC step l d exE outE n0 left s .ret st (qY (ar st.h it))
 | .pan x,st=> exC step l d exE outE n0 left s (.pan x) st (qY (ar st.h it))
variable {step : τ→σ→ρ⊕σ} {l : List τ} {d : τ} {n0 id it j : Nat} {exE : ρ→Ex} {outE : ρ→St} {outN : σ→St} {D : List Nat→Option Nat→σ→St} {left : List Nat} {s s' : σ} {st : St} {x : Value} {e : Ex} {y : ρ} {t : List (Nat×SV)} {h : List Ob}
@[go_sem] theorem Xs {m : Option Nat} {n : Nat} {left : List Nat} {c : Option Nat} : qY (.mi m n left c)=c:=(rfl)
@[go_sem] theorem VQ : nxC step l d D n0 left s st (some j)=(j∈left∧mS (fun _ s'=> D (left.erase j) (some j) s') n0 0 st (step (l.getD j d) s)) :=(rfl)
@[go_sem] theorem VR : exC step l d exE outE n0 left s e st (some j)=(j∈left∧iJ exE outE n0 e st (step (l.getD j d) s)) :=(rfl)
@[go_sem] theorem Uh : cM step l d exE outE outN D n0 id it left s .normal ⟨t,h⟩=nxC step l d D n0 left s ⟨t,h⟩ (qY (ar h it)) :=(rfl)
@[go_sem] theorem Xt : cM step l d exE outE outN D n0 id it left s (.exit j) ⟨t,h⟩=bif Nat.beq j id then (left=[]→fw (outN s) n0 ⟨t,h⟩)∧(left≠[]→exC step l d exE outE n0 left s .normal ⟨t,h⟩ (qY (ar h it))) else exC step l d exE outE n0 left s (.exit j) ⟨t,h⟩ (qY (ar h it)) :=(rfl)
@[go_sem] theorem Zv : cM step l d exE outE outN D n0 id it left s .ret ⟨t,h⟩=exC step l d exE outE n0 left s .ret ⟨t,h⟩ (qY (ar h it)) :=(rfl)
@[go_sem] theorem Zw : cM step l d exE outE outN D n0 id it left s (.pan x) ⟨t,h⟩=exC step l d exE outE n0 left s (.pan x) ⟨t,h⟩ (qY (ar h it)) :=(rfl)
attribute [go_sem] Hk
@[go_sem] theorem VS {t : List (Nat×SV)} {h : List Ob} {d : Nat} {s : SV} : St.put ⟨t,h⟩ (some d) s=⟨(d,s) :: t,h⟩ :=(rfl)
@[go_sem] theorem VT {t : List (Nat×SV)} {h : List Ob} {s : SV} : St.put ⟨t,h⟩ none s=⟨t,h⟩ :=(rfl)
def okM (step : τ→σ→ρ⊕σ) (p : τ→σ→Prop) (l : List τ) (s : σ) : Prop:= ∀ L,L.Perm l→cq step L s=cq step l s∧okL step p L s
theorem v6 (l : List τ) (d : τ) : (List.range l.length).map (fun j=> l.getD j d)=l:=by
 apply List.ext_getElem
 ·simp
 ·intro i h1 h2
  simp only [List.length_map,List.length_range] at h1
  simp [List.getD_eq_getElem?_getD,List.getElem?_eq_getElem h1]
end
end Go.Sx
end
section
namespace Go.Sx
open Go.RowKit
inductive NLoc where
 | slot (i : Nat) (o : Ob)
 | cell (i j : Nat) (o : Ob)
def Jx (j n : Nat) : Ob→Ob
 | .cells l=> .cells (l.set j (.os n))
 | o=> o
def O0 (j : Nat) : Ob→Prop
 | .cells l=> nth l j=some (.v (.slice none 0 0))
 | _=> False
def x_ : Ob→Prop
 | .row _ l=> l=[]
 | .grid _ l=> l=[]
 | _=> False
def mkN : List NLoc→St→St
 | [],st=> st
 | .slot i o :: r,⟨t,h⟩ => mkN r ⟨(i,.os h.length) :: t,h ++ [o]⟩
 | .cell i j o :: r,⟨t,h⟩ => mkN r ⟨t,bU h i (Jx j h.length (ar h i)) ++ [o]⟩
def okN : List NLoc→St→Prop
 | [],_=> True
 | .slot i o :: r,⟨t,h⟩ => lk i t= .v (.slice none 0 0)∧x_ o∧okN r ⟨(i,.os h.length) :: t,h ++ [o]⟩
 | .cell i j o :: r,⟨t,h⟩ => O0 j (ar h i)∧x_ o∧okN r ⟨t,bU h i (Jx j h.length (ar h i)) ++ [o]⟩
section
variable {i j m n : Nat} {o : Ob} {r : List NLoc} {t t2 : List (Nat×SV)} {h h2 : List Ob} {l : List SV} {ns : List NLoc} {js : List Nat} {st : St}
@[go_sem] theorem Xu : mkN [] st=st:=(rfl)
@[go_sem] theorem VU : mkN (.slot i o :: r) ⟨t,h⟩=mkN r ⟨(i,.os h.length) :: t,h ++ [o]⟩ :=(rfl)
@[go_sem] theorem VV : mkN (.cell i j o :: r) ⟨t,h⟩=mkN r ⟨t,bU h i (Jx j h.length (ar h i)) ++ [o]⟩ :=(rfl)
@[go_sem] theorem Xv : okN [] st=True:=(rfl)
@[go_sem] theorem VW : okN (.slot i o :: r) ⟨t,h⟩=(lk i t= .v (.slice none 0 0)∧x_ o∧okN r ⟨(i,.os h.length) :: t,h ++ [o]⟩) :=(rfl)
@[go_sem] theorem VX : okN (.cell i j o :: r) ⟨t,h⟩=(O0 j (ar h i)∧x_ o∧okN r ⟨t,bU h i (Jx j h.length (ar h i)) ++ [o]⟩) :=(rfl)
@[go_sem] theorem R8 : Jx j n (.cells l)= .cells (l.set j (.os n)) :=(rfl)
@[go_sem] theorem R9 : O0 j (.cells l)=(nth l j=some (.v (.slice none 0 0))) :=(rfl)
theorem E9 (h : x_ o) : (∃ k,o= .row k [])∨∃ k,o= .grid k [] :=by
 cases o <;> simp only [x_] at h
 ·subst h;exact .inl ⟨_,rfl⟩
 ·subst h;exact .inr ⟨_,rfl⟩
theorem qZ : ∀ (ns : List NLoc) (st0 st : St),NilS st0 st→okN ns st→NilS st0 (mkN ns st)
 | [],_,_,hn,_=> hn
 | .slot i o :: r,st0,⟨t,h⟩,hn,hk=> qZ r st0 _ (.slot o hn hk.1 (E9 hk.2.1)) hk.2.2
 | .cell i j o :: r,st0,⟨t,h⟩,hn,hk=> by
  refine qZ r st0 _ ?_ hk.2.2
  have h1:=hk.1
  cases ho : ar h i with
  | cells l=>
   rw [ho] at h1
   simp only [O0,dC] at h1
   exact .cell o hn ho h1 (E9 hk.2.1)
  | _=> rw [ho] at h1;exact h1.elim
def lp (m : Nat) (ns : List NLoc) (js : List Nat) (st d : St) : Prop:=st.h.length=m∧okN ns st∧m≤d.h.length∧Sub js m (mkN ns st) d
@[go_sem] theorem Ui : lp m ns js ⟨t,h⟩ ⟨t2,h2⟩=(h.length=m∧okN ns ⟨t,h⟩∧m≤h2.length∧Sub js m (mkN ns ⟨t,h⟩) ⟨t2,h2⟩) :=(rfl)
end
theorem ay {P : Program} {ro : Option Nat} {N : Nat} (c : Code) : aA P ro N L0 c:=by
 induction c with
 | seq a b ha hb=> exact ⟨ha,hb⟩
 | cond _ a b ha hb=> exact ⟨ha,hb⟩
 | block id c hc=>
  cases c with
  | loop c=> exact fun _ _ _ _ _ h=> by cases h
  | rangeFunc f ps a b=> exact fun _ _ _ _ _ h=> by cases h
  | _=> exact hc
 | _=> trivial
section
variable {ρ σ τ : Type}
def pT : Nat→σ→Prop:=fun _ _=> True
@[go_sem] theorem Zx {step : Nat→σ→ρ⊕σ} {n i : Nat} {s : σ} : okI step pT n i s=True:=eq_true (qb _ _ _ fun _ _ _ _=> trivial)
def LCR (m : Nat) (ns : List NLoc) (js : List Nat) (D : Nat→σ→St) (step : Nat→σ→ρ⊕σ) (p : Nat→σ→Prop) (n : Nat) (s0 : σ) (B : Prop) (exE : ρ→Ex) (outE : ρ→St) (st : St) : LCon:=
 LC (lp m ns js st (D 0 s0)∧B∧okI step p n 0 s0) (az step n 0 s0) exE outE (D n)
def LCV (m : Nat) (ns : List NLoc) (js : List Nat) (D : Nat→σ→St) (step : Nat→σ→ρ⊕σ) (p : Nat→σ→Prop) (n : Nat) (s0 : σ) (exE : ρ→Ex) (outE : ρ→St) (st : St) : LCon:=
 LC (lp m ns js st (D 0 s0)∧okI step p n 0 s0∧∀ s,az step n 0 s0≠ .inr s) (az step n 0 s0) exE outE (D n)
variable {m : Nat} {ns : List NLoc} {js : List Nat} {step : Nat→σ→ρ⊕σ} {p : Nat→σ→Prop} {n : Nat} {s0 : σ} {B : Prop} {exE : ρ→Ex} {outE : ρ→St} {outN : σ→St} {st : St} {Q : Ex→St→Prop}
@[go_sem] theorem Uj {D : Nat→σ→St} : kA Q (some (LCR m ns js D step p n s0 B exE outE st))=((lp m ns js st (D 0 s0)∧B∧okI step p n 0 s0)∧(∀ x,az step n 0 s0= .inl x→Q (exE x) (outE x))∧∀ s,az step n 0 s0= .inr s→Q .normal (D n s)) :=AG
@[go_sem] theorem Uk {D : Nat→σ→St} : kA Q (some (LCV m ns js D step p n s0 exE outE st))=((lp m ns js st (D 0 s0)∧okI step p n 0 s0∧∀ s,az step n 0 s0≠ .inr s)∧∀ x,az step n 0 s0= .inl x→Q (exE x) (outE x)) :=by
 refine AG.trans ?_
 apply propext
 constructor
 ·rintro ⟨h1,h2,_⟩;exact ⟨h1,h2⟩
 ·rintro ⟨h1,h2⟩;exact ⟨h1,h2,fun s hs=> absurd hs (h1.2.2 s)⟩
def cR (step : Nat→σ→ρ⊕σ) (exE : ρ→Ex) (outE : ρ→St) (D : Nat→σ→St) (m id k : Nat) (s : σ) : Ex→St→Prop
 | .normal,st=> mS D m k st (step k s)
 | .exit j,st=> iJ exE outE m (bif Nat.beq j id then .normal else .exit j) st (step k s)
 | .ret,st=> iJ exE outE m .ret st (step k s)
 | .pan x,st=> iJ exE outE m (.pan x) st (step k s)
def cZ (d : St) (m id : Nat) : Ex→St→Prop
 | .exit j,st=> bif Nat.beq j id then fw d m st else False
 | _,_=> False
variable {D : Nat→σ→St} {id k j : Nat} {s : σ} {x : Value} {d : St} {e e' : Ex}
@[go_sem] theorem Ul : cR step exE outE D m id k s .normal st=mS D m k st (step k s) :=(rfl)
@[go_sem] theorem Xw : cR step exE outE D m id k s (.exit j) st=iJ exE outE m (bif Nat.beq j id then .normal else .exit j) st (step k s) :=(rfl)
@[go_sem] theorem Zy : cR step exE outE D m id k s .ret st=iJ exE outE m .ret st (step k s) :=(rfl)
@[go_sem] theorem Zz : cR step exE outE D m id k s (.pan x) st=iJ exE outE m (.pan x) st (step k s) :=(rfl)
@[go_sem] theorem Xx : cZ d m id (.exit j) st=bif Nat.beq j id then fw d m st else False:=(rfl)
@[congr] theorem VY {st' : St} (h : st=st') (he : e=e') : cR step exE outE D m id k s e st=cR step exE outE D m id k s e' st':=by rw [h,he]
@[congr] theorem VZ {st' : St} (h : st=st') (he : e=e') : cZ d m id e st=cZ d m id e' st':=by rw [h,he]
@[congr] theorem Qq {r r' : ρ⊕σ} (h : r=r') (he : e=e') : iJ exE outE m e st r=iJ exE outE m e' st r':=by rw [h,he]
end
section
variable {P : Program} {ρ σ τ : Type} {ts : Tis} {G : Cons} {ro : Option Nat} {N : Nat} {id : Nat} {c : Code} {C : St→Option LCon} {m : Nat} {ns : List NLoc} {js : List Nat} {step : Nat→σ→ρ⊕σ} {p : Nat→σ→Prop} {n : Nat} {s0 : σ} {exE : ρ→Ex} {outE : ρ→St} {D : Nat→σ→St}
theorem Jy {n0 : Nat} (hn0 : n0=m) {s : σ} {k : Nat} (hlt : k < n) {I : Nat×σ→Prop} {μ : Nat×σ→Nat} {outN : σ→St} {pre : Prop} {run : ρ⊕σ}
  (hI : ∀ s',step k s= .inr s'→I (k + 1,s')∧μ (k + 1,s') < μ (k,s)) (hx : ∀ x,step k s= .inl x→run= .inl x) :
  ∀ e st',cR step exE outE D m id k s e st'→nA (fun x : Nat×σ=> D x.1 x.2) I μ n0 (k,s) id (fun e st'=> ∃ r js,(LC pre run exE outE outN).post r∧(LC pre run exE outE outN).ex r=e∧n0≤((LC pre run exE outE outN).out r).h.length∧Sub js n0 st' ((LC pre run exE outE outN).out r)) e st':=by
 subst hn0
 have hfin : ∀ e st',iJ exE outE n0 e st' (step k s)→∃ r js,(LC pre run exE outE outN).post r∧(LC pre run exE outE outN).ex r=e∧n0≤((LC pre run exE outE outN).out r).h.length∧Sub js n0 st' ((LC pre run exE outE outN).out r) :=by
  intro e st' q
  cases hs : step k s with
  | inr s'=> rw [hs] at q;exact q.elim
  | inl x=>
   rw [hs] at q
   obtain ⟨q2,js,q3,q4⟩ :=q
   exact ⟨.inl x,js,(hx x hs).symm,q2,q3,q4⟩
 intro e st' hq
 cases e with
 | normal=>
  change mS D n0 k st' (step k s) at hq
  cases hs : step k s with
  | inl x=> rw [hs] at hq;exact hq.elim
  | inr s'=>
   rw [hs] at hq
   obtain ⟨js,q3,q4⟩ :=hq
   obtain ⟨i1,i2⟩ :=hI s' hs
   exact ⟨(k + 1,s'),js,i1,i2,q3,q4⟩
 | exit j=>
  change iJ exE outE n0 (bif Nat.beq j id then .normal else .exit j) st' (step k s) at hq
  show bif Nat.beq j id then _ else _
  cases hb : Nat.beq j id with
  | true=> rw [hb] at hq;exact hfin _ _ hq
  | false=> rw [hb] at hq;exact hfin _ _ hq
 | ret=> exact hfin _ _ hq
 | pan x=> exact hfin _ _ hq
theorem tp {B : Prop} (hm : P.follows .mixedOrders=true) (hts : ts.ok P) (hG : ConsOk P G) (hc : bY N c=true) (hC : ∀ st,C st=some (LCR m ns js D step p n s0 B exE outE st))
  (h : B→∀ k s,k < n→p k s→∃ L Q,aA P ro N L c∧(∀ e st',Q e st'→cR step exE outE D m id k s e st')∧exec ts G L c (D k s) Q)
  (h2 : B→∀ s,∃ Q,(∀ e st',Q e st'→cZ (D n s) m id e st')∧exec ts G L0 c (D n s) Q) : gN P ro N id (.loop c) C:=by
 refine oO hm hts hG hc fun st lc hC' hp=> ?_
 rw [hC st] at hC'
 cases hC'
 obtain ⟨⟨hlen,hok,hle,hsub⟩,hB,h1⟩ :=hp
 refine ⟨Nat×σ,fun x=> D x.1 x.2,fun x=> x.1≤n∧okI step p (n - x.1) x.1 x.2∧az step (n - x.1) x.1 x.2=az step n 0 s0,fun x=> n - x.1,(0,s0),mkN ns st,js,⟨Nat.zero_le _,by simpa using h1,by simp⟩,qZ ns st st (.refl _) hok,by rw [hlen];exact hle,by rw [hlen];exact hsub,?_⟩
 rintro ⟨k,s⟩ ⟨hk,hJ,hrun⟩
 simp only at hk hJ hrun
 rcases Nat.lt_or_ge k n with hlt | hge
 ·rw [show n - k=(n - k - 1) + 1 by omega] at hrun hJ
  obtain ⟨L,Q,hl,hQ,hex⟩ :=h hB k s hlt hJ.1
  have hI : ∀ s',step k s= .inr s'→okI step p (n - (k + 1)) (k + 1) s'∧az step (n - (k + 1)) (k + 1) s'=az step n 0 s0:=fun s' hs=> by
   have:=hJ.2 s' hs
   rw [show n - k - 1=n - (k + 1) by omega] at this hrun
   simp only [az,hs] at hrun
   exact ⟨this,hrun⟩
  have hx : ∀ x,step k s= .inl x→az step n 0 s0= .inl x:=fun x hs=> by
   simp only [az,hs] at hrun
   exact hrun.symm
  exact ⟨L,Q,hl,fun e st' q=> Jy hlen hlt (fun s' hs=> ⟨⟨hlt,hI s' hs⟩,by simp only;omega⟩) hx e st' (hQ e st' q),hex⟩
 ·have hkn : k=n:=by omega
  subst hkn
  obtain ⟨Q,hQ,hex⟩ :=h2 hB s
  refine ⟨L0,Q,ay c,fun e st' q=> ?_,hex⟩
  have hq:=hQ e st' q
  simp only [Nat.sub_self,az] at hrun
  cases e with
  | exit j=>
   change bif Nat.beq j id then fw (D k s) m st' else False at hq
   show bif Nat.beq j id then _ else _
   cases hb : Nat.beq j id with
   | true=>
    rw [hb] at hq
    obtain ⟨js,q3,q4⟩ :=hq
    exact ⟨.inr s,js,hrun,rfl,by rw [hlen];exact q3,by rw [hlen];exact q4⟩
   | false=> rw [hb] at hq;exact hq.elim
  | _=> exact hq.elim
theorem db {B : Prop} (hm : P.follows .mixedOrders=true) (hts : ts.ok P) (hG : ConsOk P G) (hc : bY N c=true) (hC : ∀ st,C st=some (LCR m ns js D step p n s0 B exE outE st)) (M : Int) (hn : n=M.toNat) (hB : B→M < 9223372036854775808)
  (h : B→∀ k s,k < n→p k s→IntKind.i64.wrap ((k : Int) + 1)=((k + 1 : Nat) : Int)→decide ((k : Int) < M)=true→∃ L,aA P ro N L c∧exec ts G L c (D k s) (cR step exE outE D m id k s))
  (h2 : B→∀ s,decide ((n : Int) < M)=false→exec ts G L0 c (D n s) (cZ (D n s) m id)) : gN P ro N id (.loop c) C:=by
 refine tp hm hts hG hc hC (fun b k s hlt hp=> ?_) fun b s=> ⟨_,fun _ _ q=> q,h2 b s ?_⟩
 ·obtain ⟨L,h1,h3⟩ :=h b k s hlt hp (DD (hn▸hlt) (hB b)) (decide_eq_true (by omega))
  exact ⟨L,_,h1,fun _ _ q=> q,h3⟩
 ·rw [decide_eq_false_iff_not];omega
theorem v7 (E : Prop) (hm : P.follows .mixedOrders=true) (hts : ts.ok P) (hG : ConsOk P G) (hc : bY N c=true) (hC : ∀ st,C st=some (LCR m ns js D step p n s0 True exE outE st)) (M : Int) (hn : n=M.toNat) (hE : E→M < 9223372036854775808)
  (h : E→∀ k s,k < n→p k s→IntKind.i64.wrap ((k : Int) + 1)=((k + 1 : Nat) : Int)→decide ((k : Int) < M)=true→∃ L,aA P ro N L c∧exec ts G L c (D k s) (cR step exE outE D m id k s))
  (h2 : E→∀ s,decide ((n : Int) < M)=false→exec ts G L0 c (D n s) (cZ (D n s) m id)) (h3 : ¬ E→∀ k s,exec ts G L0 c (D k s) fun _ _=> False) : gN P ro N id (.loop c) C:=by
 by_cases hb : E
 ·refine tp hm hts hG hc hC (fun b k s hlt hp=> ?_) fun b s=> ⟨_,fun _ _ q=> q,h2 hb s ?_⟩
  ·obtain ⟨L,h1,h4⟩ :=h hb k s hlt hp (DD (hn▸hlt) (hE hb)) (decide_eq_true (by omega))
   exact ⟨L,_,h1,fun _ _ q=> q,h4⟩
  ·rw [decide_eq_false_iff_not];omega
 ·exact tp hm hts hG hc hC (fun _ k s _ _=> ⟨L0,_,ay c,fun _ _ q=> q.elim,h3 hb k s⟩) fun _ s=> ⟨_,fun _ _ q=> q.elim,h3 hb n s⟩
theorem v8 (hm : P.follows .mixedOrders=true) (hts : ts.ok P) (hG : ConsOk P G) (hc : bY N c=true) (hC : ∀ st,C st=some (LCV m ns js D step p n s0 exE outE st))
  (h : ∀ k s,p k s→∃ L,aA P ro N L c∧exec ts G L c (D k s) (cR step exE outE D m id k s)) : gN P ro N id (.loop c) C:=by
 refine oO hm hts hG hc fun st lc hC' hp=> ?_
 rw [hC st] at hC'
 cases hC'
 obtain ⟨⟨hlen,hok,hle,hsub⟩,h1,hno⟩ :=hp
 refine ⟨Nat×σ,fun x=> D x.1 x.2,fun x=> x.1≤n∧okI step p (n - x.1) x.1 x.2∧az step (n - x.1) x.1 x.2=az step n 0 s0,fun x=> n - x.1,(0,s0),mkN ns st,js,⟨Nat.zero_le _,by simpa using h1,by simp⟩,qZ ns st st (.refl _) hok,by rw [hlen];exact hle,by rw [hlen];exact hsub,?_⟩
 rintro ⟨k,s⟩ ⟨hk,hJ,hrun⟩
 simp only at hk hJ hrun
 have hlt : k < n:=by
  rcases Nat.lt_or_ge k n with h | h
  ·exact h
  ·have hkn : k=n:=by omega
   subst hkn
   simp only [Nat.sub_self,az] at hrun
   exact absurd hrun.symm (hno s)
 rw [show n - k=(n - k - 1) + 1 by omega] at hrun hJ
 obtain ⟨L,hl,hex⟩ :=h k s hJ.1
 have hI : ∀ s',step k s= .inr s'→okI step p (n - (k + 1)) (k + 1) s'∧az step (n - (k + 1)) (k + 1) s'=az step n 0 s0:=fun s' hs=> by
  have:=hJ.2 s' hs
  rw [show n - k - 1=n - (k + 1) by omega] at this hrun
  simp only [az,hs] at hrun
  exact ⟨this,hrun⟩
 have hx : ∀ x,step k s= .inl x→az step n 0 s0= .inl x:=fun x hs=> by
  simp only [az,hs] at hrun
  exact hrun.symm
 exact ⟨L,_,hl,fun e st' q=> Jy hlen hlt (fun s' hs=> ⟨⟨hlt,hI s' hs⟩,by simp only;omega⟩) hx e st' q,hex⟩
theorem kQ {α : Type} {l : List α} (h : l.length≤bg) : (l.length : Int) < 9223372036854775808:=by unfold bg at h;omega
end
section
universe u
variable {α : Type u} {G : List SV→α→Prop} {r : List SV}
theorem eo {k : Int→List SV→Option α} (h : ∀ n l c,k n l=some c→G (.v (.int .i64 n) :: l) c) : ∀ l c,pI k l=some c→G l c:=fun l c hc=> by
 obtain ⟨n,r,rfl,h1⟩ :=RI hc;exact h n r c h1
theorem R_ {k : Bool→List SV→Option α} (h : ∀ n l c,k n l=some c→G (.v (.bool n) :: l) c) : ∀ l c,pB k l=some c→G l c:=fun l c hc=> by
 obtain ⟨n,r,rfl,h1⟩ :=RJ hc;exact h n r c h1
theorem dl {t : Tag} {k : List t.T→List SV→Option α} (h : ∀ n l c,k n l=some c→G (.rs t n :: l) c) : ∀ l c,pR t k l=some c→G l c:=fun l c hc=> by
 obtain ⟨n,r,rfl,h1⟩ :=RK hc;exact h n r c h1
theorem bI {t : Tag} {k : t.T→List SV→Option α} (h : ∀ n l c,k n l=some c→G (.agg (cellsOf t n) :: l) c) : ∀ l c,pD t k l=some c→G l c:=fun l c hc=> by
 obtain ⟨n,r,rfl,h1⟩ :=tj hc;exact h n r c h1
theorem q_ {t : Tag} {k : t.T→List SV→Option α} (h : ∀ n l c,k n l=some c→G (.ep (cellsOf t n) 0 :: l) c) : ∀ l c,pX t k l=some c→G l c:=fun l c hc=> by
 obtain ⟨n,r,rfl,h1⟩ :=RL hc;exact h n r c h1
theorem aN {c0 : α} (h : G [] c0) : ∀ l c,pE c0 l=some c→G l c:=fun l c hc=> by
 obtain ⟨rfl,rfl⟩ :=qX hc;exact h
end
end Go.Sx
end
section
namespace Go.Sx
open Go.RowKit
section
universe u
variable {α : Type u} {G : List SV→α→Prop}
def apO : Option (List SV→Option α)→List SV→Option α
 | some q,r=> q r
 | none,_=> none
@[go_sem] theorem V0 {q : List SV→Option α} {r : List SV} : apO (some q) r=q r:=(rfl)
@[go_sem] theorem V1 {r : List SV} : apO (α:=α) none r=none:=(rfl)
def pFn (f : Nat) (k : List SV→Option (List SV→Option α)) : List SV→Option α
 | .fn g [] caps :: r=> bif Nat.beq g f then apO (k caps) r else none
 | _=> none
def pXF (f : Nat) (k : List SV→Option (List SV→Option α)) : List SV→Option α
 | .ep [.fn g [] caps] 0 :: r=> bif Nat.beq g f then apO (k caps) r else none
 | _=> none
@[go_sem] theorem ZA {f g : Nat} {k : List SV→Option (List SV→Option α)} {caps r : List SV} : pFn f k (.fn g [] caps :: r)=bif Nat.beq g f then apO (k caps) r else none:=(rfl)
@[go_sem] theorem ZB {f g : Nat} {k : List SV→Option (List SV→Option α)} {caps r : List SV} : pXF f k (.ep [.fn g [] caps] 0 :: r)=bif Nat.beq g f then apO (k caps) r else none:=(rfl)
theorem E_ {o : Option (List SV→Option α)} {r : List SV} {c : α} (h : apO o r=some c) : ∃ q,o=some q∧q r=some c:=by
 cases o with
 | none=> cases h
 | some q=> exact ⟨q,rfl,h⟩
theorem iK {f : Nat} {k : List SV→Option (List SV→Option α)} (h : ∀ caps q,k caps=some q→∀ l c,q l=some c→G (.fn f [] caps :: l) c) : ∀ l c,pFn f k l=some c→G l c:=fun l c hc=> by
 unfold pFn at hc
 split at hc
 ·rename_i g caps r
  cases hb : Nat.beq g f with
  | false=> rw [hb] at hc;cases hc
  | true=>
   rw [hb] at hc
   obtain ⟨q,h1,h2⟩ :=E_ hc
   have:=Nat.eq_of_beq_eq_true hb
   subst this
   exact h caps q h1 r c h2
 ·cases hc
theorem Fa {f : Nat} {k : List SV→Option (List SV→Option α)} (h : ∀ caps q,k caps=some q→∀ l c,q l=some c→G (.ep [.fn f [] caps] 0 :: l) c) : ∀ l c,pXF f k l=some c→G l c:=fun l c hc=> by
 unfold pXF at hc
 split at hc
 ·rename_i g caps r
  cases hb : Nat.beq g f with
  | false=> rw [hb] at hc;cases hc
  | true=>
   rw [hb] at hc
   obtain ⟨q,h1,h2⟩ :=E_ hc
   have:=Nat.eq_of_beq_eq_true hb
   subst this
   exact h caps q h1 r c h2
 ·cases hc
end
theorem sa {α : Type 1} {G : List SV→α→Prop} {t : Tag} {k : List t.T→List SV→Option α} (h : ∀ n l c,k n l=some c→G (.ep [.rs t n] 0 :: l) c) : ∀ l c,pXR t k l=some c→G l c:=fun l c hc=> by
 obtain ⟨n,r,rfl,h1⟩ :=OZ hc;exact h n r c h1
theorem cl3 {p : Prop} (h : p:=by ((repeat' (first | with_reducible refine And.intro ?_ ?_ | ((with_reducible show _≠_);first | assumption | omega | (simp_all [aG,aM];done) | grind) | with_reducible intro _)) <;> (first | done | assumption | rfl | omega | exact cl | (simp_all only [HX,HY,Sum.inr.injEq,Sum.inl.injEq,forall_eq',forall_const,true_imp_iff,cond_true,cond_false,and_self];done)))) : p:=h
def v_ (k : Tag) (K : List k.T→Option HCon) : List Ob→Option HCon
 | [.row k' l] => if h : k'=k then K (h▸l) else none
 | _=> none
@[go_sem] theorem Xy {k : Tag} {K : List k.T→Option HCon} {l : List k.T} : v_ k K [.row k l]=K l:=by simp [v_]
theorem sb {k : Tag} {K : List k.T→Option HCon} {h : List Ob} {c : HCon} (hh : v_ k K h=some c) : ∃ l,h=[.row k l]∧K l=some c:=by
 unfold v_ at hh;split at hh
 ·split at hh
  ·rename_i e;subst e;exact ⟨_,rfl,hh⟩
  ·cases hh
 ·cases hh
end Go.Sx
end
