/- Part of the proof that the law CertifyLeast returns true and leaves its arguments as they were, for all arguments of bulk at most 1048576 (the Upto form). -/
import Derived.Test.YtagjakphhkfofaaGreatC106
import Derived.Test.YtagjakphhkfofaaGreatProg
set_option linter.all false
section
namespace Go.Sx
open Go.Proofs
def ti1 : TI:=⟨1,8,false,[(.v .nilFunc)],[],0,0,false,false,none,none,false,[],none,none,0⟩
def ti2 : TI:=⟨1,8,false,[(.v (.int .i64 0))],[],0,0,false,false,(some .int),(some .i64),false,[],none,none,1⟩
def ti3 : TI:=⟨1,8,false,[(.v (.int .i64 0))],[],0,0,false,false,(some .int),(some .i64),false,[],none,none,1⟩
def ti4 : TI:=⟨1,1,false,[(.v (.bool false))],[],0,0,false,false,(some .bool),none,false,[],none,none,3⟩
def ti5 : TI:=⟨1,1,false,[(.v (.int .u8 0))],[],0,0,false,false,none,(some .u8),false,[],none,none,1⟩
def ti6 : TI:=⟨1,1,false,[(.v (.int .u8 0))],[],0,0,false,false,none,(some .u8),false,[],none,none,1⟩
def ti7 : TI:=⟨4,24,true,[(.v (.int .i64 0)),(.v (.int .i64 0)),(.v (.bool false)),(.v (.int .u8 0))],[(0,(1,false)),(1,(1,false)),(2,(1,false)),(3,(1,false))],0,0,false,false,none,none,false,[1,1,3,1],none,none,0⟩
def ti8 : TI:=⟨4,24,true,[(.v (.int .i64 0)),(.v (.int .i64 0)),(.v (.bool false)),(.v (.int .u8 0))],[(0,(1,false)),(1,(1,false)),(2,(1,false)),(3,(1,false))],0,0,false,false,none,none,false,[1,1,3,1],none,none,0⟩
def ti9 : TI:=⟨1,16,false,[(.v (.string (ByteArray.mk #[])))],[],0,0,false,false,(some .str),none,false,[],none,none,2⟩
def Kh : TI:=⟨1,16,false,[(.v (.string (ByteArray.mk #[])))],[],0,0,false,false,none,none,false,[],none,none,2⟩
def Ki : TI:=⟨1,16,false,[(.v (.string (ByteArray.mk #[])))],[],0,0,false,false,none,none,false,[],none,none,2⟩
def Kj : TI:=⟨1,8,false,[(.v (.int .u64 0))],[],0,0,false,false,none,(some .u64),false,[],none,none,1⟩
def Kk : TI:=⟨2,24,true,[(.v (.string (ByteArray.mk #[]))),(.v (.int .u64 0))],[(0,(1,false)),(1,(1,false))],0,0,false,false,none,none,false,[],none,none,0⟩
def Kl : TI:=⟨2,24,true,[(.v (.string (ByteArray.mk #[]))),(.v (.int .u64 0))],[(0,(1,false)),(1,(1,false))],0,0,false,false,none,none,false,[],none,none,0⟩
def Km : TI:=⟨1,8,false,[(.v (.pointer none))],[],0,0,false,false,none,none,false,[],none,none,0⟩
def Kn : TI:=⟨1,8,false,[(.v (.pointer none))],[],0,0,false,false,none,none,false,[],none,none,0⟩
def Ko : TI:=⟨1,8,false,[(.v (.pointer none))],[],0,0,false,false,none,none,false,[],none,none,0⟩
def Kp : TI:=⟨1,8,true,[(.v (.pointer none))],[(0,(1,false))],0,0,false,false,none,none,false,[],none,none,0⟩
def Kq : TI:=⟨1,8,true,[(.v (.pointer none))],[(0,(1,false))],0,0,false,false,none,none,false,[],none,none,0⟩
def Kr : TI:=⟨1,16,false,[(.v .nilIface)],[],0,0,false,false,none,none,true,[],none,none,0⟩
def Ks : TI:=⟨1,4,false,[(.v (.int .i32 0))],[],0,0,false,false,none,(some .i32),false,[],none,none,1⟩
def Kt : TI:=⟨2,16,true,[(.v (.int .i64 0)),(.v (.int .i64 0))],[(0,(1,false)),(1,(1,false))],0,0,false,false,none,none,false,[1,1],none,none,0⟩
def Ku : TI:=⟨2,16,true,[(.v (.int .i64 0)),(.v (.int .i64 0))],[(0,(1,false)),(1,(1,false))],0,0,false,false,(some .tank),none,false,[1,1],none,none,0⟩
def Kv : TI:=⟨1,24,false,[(.v (.slice none 0 0))],[],93,0,true,false,none,none,false,[],none,none,0⟩
def Kw : TI:=⟨1,24,false,[(.v (.slice none 0 0))],[],95,0,true,false,none,none,false,[],none,none,0⟩
def Kx : TI:=⟨1,24,false,[(.v (.slice none 0 0))],[],174,0,true,false,none,none,false,[],none,none,0⟩
def Ky : TI:=⟨1,24,false,[(.v (.slice none 0 0))],[],84,0,true,false,none,none,false,[],none,none,0⟩
def Kz : TI:=⟨1,24,false,[(.v (.slice none 0 0))],[],178,0,true,false,none,none,false,[],none,none,0⟩
def KA : TI:=⟨1,24,false,[(.v (.slice none 0 0))],[],252,0,true,false,none,none,false,[],none,none,0⟩
def KB : TI:=⟨10,184,true,[(.v (.string (ByteArray.mk #[]))),(.v (.int .i64 0)),(.v (.int .i64 0)),(.v (.int .i64 0)),(.v (.slice none 0 0)),(.v (.slice none 0 0)),(.v (.slice none 0 0)),(.v (.slice none 0 0)),(.v (.slice none 0 0)),(.v (.slice none 0 0))],[(0,(1,false)),(1,(1,false)),(2,(2,true)),(4,(1,false)),(5,(1,false)),(6,(1,false)),(7,(1,false)),(8,(1,false)),(9,(1,false))],0,0,false,false,none,none,false,[],none,none,0⟩
def KC : TI:=⟨10,184,true,[(.v (.string (ByteArray.mk #[]))),(.v (.int .i64 0)),(.v (.int .i64 0)),(.v (.int .i64 0)),(.v (.slice none 0 0)),(.v (.slice none 0 0)),(.v (.slice none 0 0)),(.v (.slice none 0 0)),(.v (.slice none 0 0)),(.v (.slice none 0 0))],[(0,(1,false)),(1,(1,false)),(2,(2,true)),(4,(1,false)),(5,(1,false)),(6,(1,false)),(7,(1,false)),(8,(1,false)),(9,(1,false))],0,0,false,false,(some .district),none,false,[],none,none,0⟩
def KD : TI:=⟨1,24,false,[(.v (.slice none 0 0))],[],49,0,true,false,(some .claims),none,false,[],none,none,0⟩
def KE : TI:=⟨1,8,false,[(.v .nilFunc)],[],0,0,false,false,none,none,false,[],none,none,0⟩
def KF : TI:=⟨1,8,false,[(.v .nilFunc)],[],0,0,false,false,none,none,false,[],none,none,0⟩
def KG : TI:=⟨1,24,false,[(.v (.slice none 0 0))],[],54,0,true,false,none,none,false,[],none,none,0⟩
def KH : TI:=⟨1,8,false,[(.v (.int .i64 0))],[],0,0,false,false,(some .int),(some .i64),false,[],none,none,1⟩
def KI : TI:=⟨1,8,false,[(.v .nilFunc)],[],0,0,false,false,none,none,false,[],none,none,0⟩
def KJ : TI:=⟨5,40,true,[(.v (.int .i64 0)),(.v (.int .i64 0)),(.v (.int .i64 0)),(.v (.int .i64 0)),(.v (.int .i64 0))],[(0,(1,false)),(1,(1,false)),(2,(1,false)),(3,(1,false)),(4,(1,false))],0,0,false,false,none,none,false,[1,1,1,1,1],none,none,0⟩
def KK : TI:=⟨5,40,true,[(.v (.int .i64 0)),(.v (.int .i64 0)),(.v (.int .i64 0)),(.v (.int .i64 0)),(.v (.int .i64 0))],[(0,(1,false)),(1,(1,false)),(2,(1,false)),(3,(1,false)),(4,(1,false))],0,0,false,false,(some .fault),none,false,[1,1,1,1,1],none,none,0⟩
def KL : TI:=⟨1,8,false,[(.v .nilFunc)],[],0,0,false,false,none,none,false,[],none,none,0⟩
def KM : TI:=⟨1,8,false,[(.v .nilFunc)],[],0,0,false,false,none,none,false,[],none,none,0⟩
def KN : TI:=⟨1,8,false,[(.v .nilFunc)],[],0,0,false,false,none,none,false,[],none,none,0⟩
def KO : TI:=⟨1,8,false,[(.v .nilFunc)],[],0,0,false,false,none,none,false,[],none,none,0⟩
def KP : TI:=⟨1,2,false,[(.v (.int .u16 0))],[],0,0,false,false,none,(some .u16),false,[],none,none,1⟩
def KQ : TI:=⟨5,40,true,[(.v (.int .i64 0)),(.v (.int .i64 0)),(.v (.int .i64 0)),(.v (.int .i64 0)),(.v (.int .i64 0))],[(0,(1,false)),(1,(1,false)),(2,(1,false)),(3,(1,false)),(4,(1,false))],0,0,false,false,none,none,false,[1,1,1,1,1],none,none,0⟩
def KR : TI:=⟨5,40,true,[(.v (.int .i64 0)),(.v (.int .i64 0)),(.v (.int .i64 0)),(.v (.int .i64 0)),(.v (.int .i64 0))],[(0,(1,false)),(1,(1,false)),(2,(1,false)),(3,(1,false)),(4,(1,false))],0,0,false,false,(some .claim),none,false,[1,1,1,1,1],none,none,0⟩
def KS : TI:=⟨1,8,false,[(.v (.map none))],[],3,0,false,false,none,none,false,[],(some .acequialaw27Key),(some .int),0⟩
def KT : TI:=⟨1,8,false,[(.v .nilFunc)],[],0,0,false,false,none,none,false,[],none,none,0⟩
def KU : TI:=⟨1,24,false,[(.v (.slice none 0 0))],[],32,0,true,false,none,none,false,[],none,none,0⟩
def KV : TI:=⟨4,32,true,[(.v (.int .i64 0)),(.v (.int .i64 0)),(.v (.int .i64 0)),(.v (.bool false))],[(0,(1,false)),(1,(1,false)),(2,(1,false)),(3,(1,false))],0,0,false,false,none,none,false,[1,1,1,3],none,none,0⟩
def KW : TI:=⟨4,32,true,[(.v (.int .i64 0)),(.v (.int .i64 0)),(.v (.int .i64 0)),(.v (.bool false))],[(0,(1,false)),(1,(1,false)),(2,(1,false)),(3,(1,false))],0,0,false,false,(some .order),none,false,[1,1,1,3],none,none,0⟩
def KX : TI:=⟨3,24,true,[(.v (.bool false)),(.v (.int .i64 0)),(.v (.int .i64 0))],[(0,(1,false)),(1,(1,false)),(2,(1,false))],0,0,false,false,none,none,false,[3,1,1],none,none,0⟩
def KY : TI:=⟨3,24,true,[(.v (.bool false)),(.v (.int .i64 0)),(.v (.int .i64 0))],[(0,(1,false)),(1,(1,false)),(2,(1,false))],0,0,false,false,(some .acequialaw27Key),none,false,[3,1,1],none,none,0⟩
def KZ : TI:=⟨1,8,false,[(.v .nilFunc)],[],0,0,false,false,none,none,false,[],none,none,0⟩
def K1 : TI:=⟨1,8,false,[(.v .nilFunc)],[],0,0,false,false,none,none,false,[],none,none,0⟩
def K2 : TI:=⟨1,8,false,[(.v .nilFunc)],[],0,0,false,false,none,none,false,[],none,none,0⟩
def K3 : TI:=⟨1,8,false,[(.v .nilFunc)],[],0,0,false,false,none,none,false,[],none,none,0⟩
def K4 : TI:=⟨1,8,false,[(.v .nilFunc)],[],0,0,false,false,none,none,false,[],none,none,0⟩
def K5 : TI:=⟨1,8,false,[(.v .nilFunc)],[],0,0,false,false,none,none,false,[],none,none,0⟩
def K6 : TI:=⟨1,8,false,[(.v .nilFunc)],[],0,0,false,false,none,none,false,[],none,none,0⟩
def K7 : TI:=⟨1,8,false,[(.v .nilFunc)],[],0,0,false,false,none,none,false,[],none,none,0⟩
def K8 : TI:=⟨1,8,false,[(.v (.map none))],[],3,0,false,false,none,none,false,[],(some .acequialaw28Place),(some .int),0⟩
def K9 : TI:=⟨3,24,true,[(.v (.int .i64 0)),(.v (.int .i64 0)),(.v (.bool false))],[(0,(1,false)),(1,(1,false)),(2,(1,false))],0,0,false,false,none,none,false,[1,1,3],none,none,0⟩
def K_ : TI:=⟨3,24,true,[(.v (.int .i64 0)),(.v (.int .i64 0)),(.v (.bool false))],[(0,(1,false)),(1,(1,false)),(2,(1,false))],0,0,false,false,(some .acequialaw28Place),none,false,[1,1,3],none,none,0⟩
def La : TI:=⟨1,8,false,[(.v .nilFunc)],[],0,0,false,false,none,none,false,[],none,none,0⟩
def Lb : TI:=⟨1,8,false,[(.v .nilFunc)],[],0,0,false,false,none,none,false,[],none,none,0⟩
def Lc : TI:=⟨1,8,false,[(.v .nilFunc)],[],0,0,false,false,none,none,false,[],none,none,0⟩
def Ld : TI:=⟨1,8,false,[(.v .nilFunc)],[],0,0,false,false,none,none,false,[],none,none,0⟩
def Le : TI:=⟨1,8,false,[(.v .nilFunc)],[],0,0,false,false,none,none,false,[],none,none,0⟩
def Lf : TI:=⟨1,8,false,[(.v .nilFunc)],[],0,0,false,false,none,none,false,[],none,none,0⟩
def Lg : TI:=⟨1,8,false,[(.v .nilFunc)],[],0,0,false,false,none,none,false,[],none,none,0⟩
def Lh : TI:=⟨1,8,false,[(.v .nilFunc)],[],0,0,false,false,none,none,false,[],none,none,0⟩
def Li : TI:=⟨1,8,false,[(.v .nilFunc)],[],0,0,false,false,none,none,false,[],none,none,0⟩
def Lj : TI:=⟨1,8,false,[(.v .nilFunc)],[],0,0,false,false,none,none,false,[],none,none,0⟩
def Lk : TI:=⟨1,8,false,[(.v .nilFunc)],[],0,0,false,false,none,none,false,[],none,none,0⟩
def Ll : TI:=⟨10,88,true,[(.v (.string (ByteArray.mk #[]))),(.v (.int .i64 0)),(.v (.int .i64 0)),(.v (.int .i64 0)),(.v (.int .i64 0)),(.v (.int .i64 0)),(.v (.int .i64 0)),(.v (.int .i64 0)),(.v (.int .i64 0)),(.v (.int .i64 0))],[(0,(1,false)),(1,(1,false)),(2,(1,false)),(3,(1,false)),(4,(1,false)),(5,(1,false)),(6,(1,false)),(7,(1,false)),(8,(1,false)),(9,(1,false))],0,0,false,false,none,none,false,[2,1,1,1,1,1,1,1,1,1],none,none,0⟩
def Lm : TI:=⟨10,88,true,[(.v (.string (ByteArray.mk #[]))),(.v (.int .i64 0)),(.v (.int .i64 0)),(.v (.int .i64 0)),(.v (.int .i64 0)),(.v (.int .i64 0)),(.v (.int .i64 0)),(.v (.int .i64 0)),(.v (.int .i64 0)),(.v (.int .i64 0))],[(0,(1,false)),(1,(1,false)),(2,(1,false)),(3,(1,false)),(4,(1,false)),(5,(1,false)),(6,(1,false)),(7,(1,false)),(8,(1,false)),(9,(1,false))],0,0,false,false,(some .right),none,false,[2,1,1,1,1,1,1,1,1,1],none,none,0⟩
def Ln : TI:=⟨1,8,false,[(.v .nilFunc)],[],0,0,false,false,none,none,false,[],none,none,0⟩
def Lo : TI:=⟨1,8,false,[(.v .nilFunc)],[],0,0,false,false,none,none,false,[],none,none,0⟩
def Lp : TI:=⟨2,16,true,[(.v (.int .i64 0)),(.v (.int .i64 0))],[(0,(1,false)),(1,(1,false))],0,0,false,false,none,none,false,[1,1],none,none,0⟩
def Lq : TI:=⟨2,16,true,[(.v (.int .i64 0)),(.v (.int .i64 0))],[(0,(1,false)),(1,(1,false))],0,0,false,false,(some .range),none,false,[1,1],none,none,0⟩
def Lr : TI:=⟨2,16,true,[(.v (.int .i64 0)),(.v (.int .i64 0))],[(0,(1,false)),(1,(1,false))],0,0,false,false,none,none,false,[1,1],none,none,0⟩
def Ls : TI:=⟨2,16,true,[(.v (.int .i64 0)),(.v (.int .i64 0))],[(0,(1,false)),(1,(1,false))],0,0,false,false,(some .ratio),none,false,[1,1],none,none,0⟩
def Lt : TI:=⟨4,32,true,[(.v (.int .i64 0)),(.v (.int .i64 0)),(.v (.int .i64 0)),(.v (.int .i64 0))],[],90,2,false,true,(some .ratio2),none,false,[],none,none,0⟩
def Lu : TI:=⟨12,104,true,[(.v (.string (ByteArray.mk #[]))),(.v (.int .i64 0)),(.v (.int .i64 0)),(.v (.int .i64 0)),(.v (.int .i64 0)),(.v (.int .i64 0)),(.v (.int .i64 0)),(.v (.int .i64 0)),(.v (.int .i64 0)),(.v (.int .i64 0)),(.v (.int .i64 0)),(.v (.int .i64 0))],[(0,(1,false)),(1,(1,false)),(2,(1,false)),(3,(1,false)),(4,(1,false)),(5,(1,false)),(6,(2,true)),(8,(4,true))],0,0,false,false,none,none,false,[],none,none,0⟩
def Lv : TI:=⟨12,104,true,[(.v (.string (ByteArray.mk #[]))),(.v (.int .i64 0)),(.v (.int .i64 0)),(.v (.int .i64 0)),(.v (.int .i64 0)),(.v (.int .i64 0)),(.v (.int .i64 0)),(.v (.int .i64 0)),(.v (.int .i64 0)),(.v (.int .i64 0)),(.v (.int .i64 0)),(.v (.int .i64 0))],[(0,(1,false)),(1,(1,false)),(2,(1,false)),(3,(1,false)),(4,(1,false)),(5,(1,false)),(6,(2,true)),(8,(4,true))],0,0,false,false,(some .reach),none,false,[],none,none,0⟩
def Lw : TI:=⟨4,40,true,[(.v (.string (ByteArray.mk #[]))),(.v (.int .i64 0)),(.v (.int .i64 0)),(.v (.int .i64 0))],[(0,(1,false)),(1,(1,false)),(2,(1,false)),(3,(1,false))],0,0,false,false,none,none,false,[2,1,1,1],none,none,0⟩
def Lx : TI:=⟨4,40,true,[(.v (.string (ByteArray.mk #[]))),(.v (.int .i64 0)),(.v (.int .i64 0)),(.v (.int .i64 0))],[(0,(1,false)),(1,(1,false)),(2,(1,false)),(3,(1,false))],0,0,false,false,(some .farm),none,false,[2,1,1,1],none,none,0⟩
def Ly : TI:=⟨1,8,false,[(.v .nilFunc)],[],0,0,false,false,none,none,false,[],none,none,0⟩
def Lz : TI:=⟨1,8,false,[(.v .nilFunc)],[],0,0,false,false,none,none,false,[],none,none,0⟩
def LA : TI:=⟨1,24,false,[(.v (.slice none 0 0))],[],40,0,true,false,none,none,false,[],none,none,0⟩
def B5 : TI:=⟨1,8,false,[(.v .nilFunc)],[],0,0,false,false,none,none,false,[],none,none,0⟩
def B6 : TI:=⟨1,8,false,[(.v .nilFunc)],[],0,0,false,false,none,none,false,[],none,none,0⟩
def B7 : TI:=⟨1,8,false,[(.v .nilFunc)],[],0,0,false,false,none,none,false,[],none,none,0⟩
def B8 : TI:=⟨1,8,false,[(.v .nilFunc)],[],0,0,false,false,none,none,false,[],none,none,0⟩
def B9 : TI:=⟨1,8,false,[(.v .nilFunc)],[],0,0,false,false,none,none,false,[],none,none,0⟩
def B_ : TI:=⟨1,8,false,[(.v .nilFunc)],[],0,0,false,false,none,none,false,[],none,none,0⟩
def Ca : TI:=⟨1,8,false,[(.v .nilFunc)],[],0,0,false,false,none,none,false,[],none,none,0⟩
def Cb : TI:=⟨1,8,false,[(.v .nilFunc)],[],0,0,false,false,none,none,false,[],none,none,0⟩
def Cc : TI:=⟨1,8,false,[(.v .nilFunc)],[],0,0,false,false,none,none,false,[],none,none,0⟩
def Cd : TI:=⟨1,8,false,[(.v .nilFunc)],[],0,0,false,false,none,none,false,[],none,none,0⟩
def Ce : TI:=⟨1,8,false,[(.v .nilFunc)],[],0,0,false,false,none,none,false,[],none,none,0⟩
def Cf : TI:=⟨1,8,false,[(.v .nilFunc)],[],0,0,false,false,none,none,false,[],none,none,0⟩
def Cg : TI:=⟨1,8,false,[(.v .nilFunc)],[],0,0,false,false,none,none,false,[],none,none,0⟩
def Ch : TI:=⟨1,8,false,[(.v .nilFunc)],[],0,0,false,false,none,none,false,[],none,none,0⟩
def Ci : TI:=⟨1,8,false,[(.v .nilFunc)],[],0,0,false,false,none,none,false,[],none,none,0⟩
def Cj : TI:=⟨1,8,false,[(.v .nilFunc)],[],0,0,false,false,none,none,false,[],none,none,0⟩
def Ck : TI:=⟨1,8,false,[(.v .nilFunc)],[],0,0,false,false,none,none,false,[],none,none,0⟩
def Cl : TI:=⟨1,8,false,[(.v .nilFunc)],[],0,0,false,false,none,none,false,[],none,none,0⟩
def Cm : TI:=⟨1,8,false,[(.v .nilFunc)],[],0,0,false,false,none,none,false,[],none,none,0⟩
def Cn : TI:=⟨1,8,false,[(.v .nilFunc)],[],0,0,false,false,none,none,false,[],none,none,0⟩
def Co : TI:=⟨1,8,false,[(.v .nilFunc)],[],0,0,false,false,none,none,false,[],none,none,0⟩
def Cp : TI:=⟨1,8,false,[(.v .nilFunc)],[],0,0,false,false,none,none,false,[],none,none,0⟩
def Cq : TI:=⟨1,8,false,[(.v .nilFunc)],[],0,0,false,false,none,none,false,[],none,none,0⟩
def Cr : TI:=⟨1,8,false,[(.v .nilFunc)],[],0,0,false,false,none,none,false,[],none,none,0⟩
def Cs : TI:=⟨1,8,false,[(.v .nilFunc)],[],0,0,false,false,none,none,false,[],none,none,0⟩
def Ct : TI:=⟨1,8,false,[(.v .nilFunc)],[],0,0,false,false,none,none,false,[],none,none,0⟩
def Cu : TI:=⟨1,8,false,[(.v .nilFunc)],[],0,0,false,false,none,none,false,[],none,none,0⟩
def Cv : TI:=⟨1,8,false,[(.v .nilFunc)],[],0,0,false,false,none,none,false,[],none,none,0⟩
def Cw : TI:=⟨1,8,false,[(.v (.map none))],[],3,0,false,false,none,none,false,[],(some .certifyPlace),(some .int),0⟩
def Cy : TI:=⟨1,24,false,[(.v (.slice none 0 0))],[],158,0,true,false,none,none,false,[],none,none,0⟩
def Cz : TI:=⟨14,264,true,[(.v (.string (ByteArray.mk #[]))),(.v (.int .i64 0)),(.v (.int .i64 0)),(.v (.int .i64 0)),(.v (.slice none 0 0)),(.v (.slice none 0 0)),(.v (.slice none 0 0)),(.v (.slice none 0 0)),(.v (.slice none 0 0)),(.v (.slice none 0 0)),(.v (.slice none 0 0)),(.v (.map none)),(.v (.slice none 0 0)),(.v (.slice none 0 0))],[(0,(10,true)),(10,(1,false)),(11,(1,false)),(12,(1,false)),(13,(1,false))],0,0,false,false,none,none,false,[],none,none,0⟩
def CA : TI:=⟨14,264,true,[(.v (.string (ByteArray.mk #[]))),(.v (.int .i64 0)),(.v (.int .i64 0)),(.v (.int .i64 0)),(.v (.slice none 0 0)),(.v (.slice none 0 0)),(.v (.slice none 0 0)),(.v (.slice none 0 0)),(.v (.slice none 0 0)),(.v (.slice none 0 0)),(.v (.slice none 0 0)),(.v (.map none)),(.v (.slice none 0 0)),(.v (.slice none 0 0))],[(0,(10,true)),(10,(1,false)),(11,(1,false)),(12,(1,false)),(13,(1,false))],0,0,false,false,(some .certifyTable),none,false,[],none,none,0⟩
def CB : TI:=⟨1,8,false,[(.v .nilFunc)],[],0,0,false,false,none,none,false,[],none,none,0⟩
def CC : TI:=⟨1,8,false,[(.v .nilFunc)],[],0,0,false,false,none,none,false,[],none,none,0⟩
def CD : TI:=⟨1,8,false,[(.v .nilFunc)],[],0,0,false,false,none,none,false,[],none,none,0⟩
def CE : TI:=⟨1,8,false,[(.v .nilFunc)],[],0,0,false,false,none,none,false,[],none,none,0⟩
def CF : TI:=⟨1,24,false,[(.v (.slice none 0 0))],[],108,0,true,false,none,none,false,[],none,none,0⟩
def CG : TI:=⟨1,8,false,[(.v .nilFunc)],[],0,0,false,false,none,none,false,[],none,none,0⟩
def CH : TI:=⟨1,8,false,[(.v (.map none))],[],3,0,false,false,none,none,false,[],(some .int2),(some .int),0⟩
def CI : TI:=⟨2,16,true,[(.v (.int .i64 0)),(.v (.int .i64 0))],[],3,2,false,true,(some .int2),none,false,[1,1],none,none,0⟩
def CJ : TI:=⟨1,8,false,[(.v .nilFunc)],[],0,0,false,false,none,none,false,[],none,none,0⟩
def CK : TI:=⟨1,8,false,[(.v .nilFunc)],[],0,0,false,false,none,none,false,[],none,none,0⟩
def CL : TI:=⟨1,8,false,[(.v .nilFunc)],[],0,0,false,false,none,none,false,[],none,none,0⟩
def CN : TI:=⟨1,8,false,[(.v .nilFunc)],[],0,0,false,false,none,none,false,[],none,none,0⟩
def CO : TI:=⟨1,8,false,[(.v .nilFunc)],[],0,0,false,false,none,none,false,[],none,none,0⟩
def CP : TI:=⟨1,8,false,[(.v .nilFunc)],[],0,0,false,false,none,none,false,[],none,none,0⟩
def CQ : TI:=⟨1,8,false,[(.v (.map none))],[],3,0,false,false,none,none,false,[],(some .timetableSlot),(some .int),0⟩
def CR : TI:=⟨1,8,false,[(.v (.map none))],[],4,0,false,false,none,none,false,[],(some .timetableSlot),(some .bool),0⟩
def CS : TI:=⟨2,16,true,[(.v (.int .i64 0)),(.v (.int .i64 0))],[(0,(1,false)),(1,(1,false))],0,0,false,false,none,none,false,[1,1],none,none,0⟩
def CT : TI:=⟨2,16,true,[(.v (.int .i64 0)),(.v (.int .i64 0))],[(0,(1,false)),(1,(1,false))],0,0,false,false,(some .timetableSlot),none,false,[1,1],none,none,0⟩
def CU : TI:=⟨1,8,false,[(.v .nilFunc)],[],0,0,false,false,none,none,false,[],none,none,0⟩
def CV : TI:=⟨1,8,false,[(.v .nilFunc)],[],0,0,false,false,none,none,false,[],none,none,0⟩
def CW : TI:=⟨1,24,false,[(.v (.slice none 0 0))],[],3,0,true,false,(some .ints),none,false,[],none,none,0⟩
def CX : TI:=⟨1,8,false,[(.v .nilFunc)],[],0,0,false,false,none,none,false,[],none,none,0⟩
def CY : TI:=⟨1,8,false,[(.v .nilFunc)],[],0,0,false,false,none,none,false,[],none,none,0⟩
def CZ : TI:=⟨1,8,false,[(.v .nilFunc)],[],0,0,false,false,none,none,false,[],none,none,0⟩
def C0 : TI:=⟨1,8,false,[(.v .nilFunc)],[],0,0,false,false,none,none,false,[],none,none,0⟩
def C1 : TI:=⟨1,8,false,[(.v .nilFunc)],[],0,0,false,false,none,none,false,[],none,none,0⟩
def C2 : TI:=⟨1,8,false,[(.v .nilFunc)],[],0,0,false,false,none,none,false,[],none,none,0⟩
def C3 : TI:=⟨1,8,false,[(.v .nilFunc)],[],0,0,false,false,none,none,false,[],none,none,0⟩
def C4 : TI:=⟨1,8,false,[(.v (.int .u64 0))],[],0,0,false,false,none,(some .u64),false,[],none,none,1⟩
def C5 : TI:=⟨1,8,false,[(.v .nilFunc)],[],0,0,false,false,none,none,false,[],none,none,0⟩
def C6 : TI:=⟨1,8,false,[(.v .nilFunc)],[],0,0,false,false,none,none,false,[],none,none,0⟩
def C7 : TI:=⟨1,8,false,[(.v (.int .i64 0))],[],0,0,false,false,(some .int),(some .i64),false,[],none,none,1⟩
def C8 : TI:=⟨1,8,false,[(.v .nilFunc)],[],0,0,false,false,none,none,false,[],none,none,0⟩
def C9 : TI:=⟨1,8,false,[(.v .nilFunc)],[],0,0,false,false,none,none,false,[],none,none,0⟩
def C_ : TI:=⟨2,24,true,[(.v (.string (ByteArray.mk #[]))),(.v (.int .i64 0))],[(0,(1,false)),(1,(1,false))],0,0,false,false,none,none,false,[2,1],none,none,0⟩
def Da : TI:=⟨2,24,true,[(.v (.string (ByteArray.mk #[]))),(.v (.int .i64 0))],[(0,(1,false)),(1,(1,false))],0,0,false,false,(some .crop),none,false,[2,1],none,none,0⟩
def Db : TI:=⟨1,8,false,[(.v .nilFunc)],[],0,0,false,false,none,none,false,[],none,none,0⟩
def Dc : TI:=⟨1,8,false,[(.v .nilFunc)],[],0,0,false,false,none,none,false,[],none,none,0⟩
def Dd : TI:=⟨4,40,true,[(.v (.string (ByteArray.mk #[]))),(.v (.int .i64 0)),(.v (.int .i64 0)),(.v (.int .i64 0))],[(0,(1,false)),(1,(1,false)),(2,(1,false)),(3,(1,false))],0,0,false,false,none,none,false,[2,1,1,1],none,none,0⟩
def De : TI:=⟨4,40,true,[(.v (.string (ByteArray.mk #[]))),(.v (.int .i64 0)),(.v (.int .i64 0)),(.v (.int .i64 0))],[(0,(1,false)),(1,(1,false)),(2,(1,false)),(3,(1,false))],0,0,false,false,(some .duty),none,false,[2,1,1,1],none,none,0⟩
def Df : TI:=⟨1,24,false,[(.v (.slice none 0 0))],[],127,0,true,false,none,none,false,[],none,none,0⟩
def Dg : TI:=⟨1,8,false,[(.v .nilFunc)],[],0,0,false,false,none,none,false,[],none,none,0⟩
def Dh : TI:=⟨1,8,false,[(.v .nilFunc)],[],0,0,false,false,none,none,false,[],none,none,0⟩
def Di : TI:=⟨1,8,false,[(.v .nilFunc)],[],0,0,false,false,none,none,false,[],none,none,0⟩
def Dj : TI:=⟨1,8,false,[(.v .nilFunc)],[],0,0,false,false,none,none,false,[],none,none,0⟩
def Dk : TI:=⟨3,24,true,[(.v (.int .i64 0)),(.v (.int .i64 0)),(.v (.bool false))],[(0,(1,false)),(1,(1,false)),(2,(1,false))],0,0,false,false,none,none,false,[1,1,3],none,none,0⟩
def Dl : TI:=⟨3,24,true,[(.v (.int .i64 0)),(.v (.int .i64 0)),(.v (.bool false))],[(0,(1,false)),(1,(1,false)),(2,(1,false))],0,0,false,false,(some .certifyPlace),none,false,[1,1,3],none,none,0⟩
def Dm : TI:=⟨1,8,false,[(.v .nilFunc)],[],0,0,false,false,none,none,false,[],none,none,0⟩
def Dn : TI:=⟨1,8,false,[(.v .nilFunc)],[],0,0,false,false,none,none,false,[],none,none,0⟩
def Do : TI:=⟨1,8,false,[(.v .nilFunc)],[],0,0,false,false,none,none,false,[],none,none,0⟩
def Dp : TI:=⟨1,8,false,[(.v .nilFunc)],[],0,0,false,false,none,none,false,[],none,none,0⟩
def Dq : TI:=⟨1,8,false,[(.v .nilFunc)],[],0,0,false,false,none,none,false,[],none,none,0⟩
def Dt : TI:=⟨1,8,false,[(.v .nilFunc)],[],0,0,false,false,none,none,false,[],none,none,0⟩
def Du : TI:=⟨1,8,false,[(.v .nilFunc)],[],0,0,false,false,none,none,false,[],none,none,0⟩
def Dv : TI:=⟨1,8,false,[(.v .nilFunc)],[],0,0,false,false,none,none,false,[],none,none,0⟩
def Dw : TI:=⟨1,8,false,[(.v (.int .i64 0))],[],0,0,false,false,none,(some .i64),false,[],none,none,1⟩
def Dx : TI:=⟨1,8,false,[(.v .nilFunc)],[],0,0,false,false,none,none,false,[],none,none,0⟩
def Dy : TI:=⟨1,8,false,[(.v .nilFunc)],[],0,0,false,false,none,none,false,[],none,none,0⟩
def Dz : TI:=⟨1,8,false,[(.v .nilFunc)],[],0,0,false,false,none,none,false,[],none,none,0⟩
def ts : Tis:=fun t=> (bif Nat.ble t 99 then (bif Nat.ble t 48 then (bif Nat.ble t 22 then (bif Nat.ble t 11 then (bif Nat.ble t 5 then (bif Nat.ble t 2 then (bif Nat.ble t 1 then (bif Nat.beq t 1 then some ti1 else none) else (bif Nat.beq t 2 then some ti2 else none)) else (bif Nat.ble t 3 then (bif Nat.beq t 3 then some ti3 else none) else (bif Nat.ble t 4 then (bif Nat.beq t 4 then some ti4 else none) else (bif Nat.beq t 5 then some ti5 else none)))) else (bif Nat.ble t 8 then (bif Nat.ble t 6 then (bif Nat.beq t 6 then some ti6 else none) else (bif Nat.ble t 7 then (bif Nat.beq t 7 then some ti7 else none) else (bif Nat.beq t 8 then some ti8 else none))) else (bif Nat.ble t 9 then (bif Nat.beq t 9 then some ti9 else none) else (bif Nat.ble t 10 then (bif Nat.beq t 10 then some Kh else none) else (bif Nat.beq t 11 then some Ki else none))))) else (bif Nat.ble t 16 then (bif Nat.ble t 13 then (bif Nat.ble t 12 then (bif Nat.beq t 12 then some Kj else none) else (bif Nat.beq t 13 then some Kk else none)) else (bif Nat.ble t 14 then (bif Nat.beq t 14 then some Kl else none) else (bif Nat.ble t 15 then (bif Nat.beq t 15 then some Km else none) else (bif Nat.beq t 16 then some Kn else none)))) else (bif Nat.ble t 19 then (bif Nat.ble t 17 then (bif Nat.beq t 17 then some Ko else none) else (bif Nat.ble t 18 then (bif Nat.beq t 18 then some Kp else none) else (bif Nat.beq t 19 then some Kq else none))) else (bif Nat.ble t 20 then (bif Nat.beq t 20 then some Kr else none) else (bif Nat.ble t 21 then (bif Nat.beq t 21 then some Ks else none) else (bif Nat.beq t 22 then some Kt else none)))))) else (bif Nat.ble t 33 then (bif Nat.ble t 27 then (bif Nat.ble t 24 then (bif Nat.ble t 23 then (bif Nat.beq t 23 then some Ku else none) else (bif Nat.beq t 24 then some Kv else none)) else (bif Nat.ble t 25 then (bif Nat.beq t 25 then some Kw else none) else (bif Nat.ble t 26 then (bif Nat.beq t 26 then some Kx else none) else (bif Nat.beq t 27 then some Ky else none)))) else (bif Nat.ble t 30 then (bif Nat.ble t 28 then (bif Nat.beq t 28 then some Kz else none) else (bif Nat.ble t 29 then (bif Nat.beq t 29 then some KA else none) else (bif Nat.beq t 30 then some KB else none))) else (bif Nat.ble t 31 then (bif Nat.beq t 31 then some KC else none) else (bif Nat.ble t 32 then (bif Nat.beq t 32 then some KD else none) else (bif Nat.beq t 33 then some KE else none))))) else (bif Nat.ble t 40 then (bif Nat.ble t 36 then (bif Nat.ble t 34 then (bif Nat.beq t 34 then some KF else none) else (bif Nat.ble t 35 then (bif Nat.beq t 35 then some KG else none) else (bif Nat.beq t 36 then some KH else none))) else (bif Nat.ble t 38 then (bif Nat.beq t 38 then some KI else none) else (bif Nat.ble t 39 then (bif Nat.beq t 39 then some KJ else none) else (bif Nat.beq t 40 then some KK else none)))) else (bif Nat.ble t 45 then (bif Nat.ble t 42 then (bif Nat.beq t 42 then some KL else none) else (bif Nat.ble t 43 then (bif Nat.beq t 43 then some KM else none) else (bif Nat.beq t 45 then some KN else none))) else (bif Nat.ble t 46 then (bif Nat.beq t 46 then some KO else none) else (bif Nat.ble t 47 then (bif Nat.beq t 47 then some KP else none) else (bif Nat.beq t 48 then some KQ else none))))))) else (bif Nat.ble t 75 then (bif Nat.ble t 59 then (bif Nat.ble t 53 then (bif Nat.ble t 50 then (bif Nat.ble t 49 then (bif Nat.beq t 49 then some KR else none) else (bif Nat.beq t 50 then some KS else none)) else (bif Nat.ble t 51 then (bif Nat.beq t 51 then some KT else none) else (bif Nat.ble t 52 then (bif Nat.beq t 52 then some KU else none) else (bif Nat.beq t 53 then some KV else none)))) else (bif Nat.ble t 56 then (bif Nat.ble t 54 then (bif Nat.beq t 54 then some KW else none) else (bif Nat.ble t 55 then (bif Nat.beq t 55 then some KX else none) else (bif Nat.beq t 56 then some KY else none))) else (bif Nat.ble t 57 then (bif Nat.beq t 57 then some KZ else none) else (bif Nat.ble t 58 then (bif Nat.beq t 58 then some K1 else none) else (bif Nat.beq t 59 then some K2 else none))))) else (bif Nat.ble t 66 then (bif Nat.ble t 62 then (bif Nat.ble t 60 then (bif Nat.beq t 60 then some K3 else none) else (bif Nat.ble t 61 then (bif Nat.beq t 61 then some K4 else none) else (bif Nat.beq t 62 then some K5 else none))) else (bif Nat.ble t 63 then (bif Nat.beq t 63 then some K6 else none) else (bif Nat.ble t 65 then (bif Nat.beq t 65 then some K7 else none) else (bif Nat.beq t 66 then some K8 else none)))) else (bif Nat.ble t 69 then (bif Nat.ble t 67 then (bif Nat.beq t 67 then some K9 else none) else (bif Nat.ble t 68 then (bif Nat.beq t 68 then some K_ else none) else (bif Nat.beq t 69 then some La else none))) else (bif Nat.ble t 71 then (bif Nat.beq t 71 then some Lb else none) else (bif Nat.ble t 73 then (bif Nat.beq t 73 then some Lc else none) else (bif Nat.beq t 75 then some Ld else none)))))) else (bif Nat.ble t 86 then (bif Nat.ble t 80 then (bif Nat.ble t 77 then (bif Nat.ble t 76 then (bif Nat.beq t 76 then some Le else none) else (bif Nat.beq t 77 then some Lf else none)) else (bif Nat.ble t 78 then (bif Nat.beq t 78 then some Lg else none) else (bif Nat.ble t 79 then (bif Nat.beq t 79 then some Lh else none) else (bif Nat.beq t 80 then some Li else none)))) else (bif Nat.ble t 83 then (bif Nat.ble t 81 then (bif Nat.beq t 81 then some Lj else none) else (bif Nat.ble t 82 then (bif Nat.beq t 82 then some Lk else none) else (bif Nat.beq t 83 then some Ll else none))) else (bif Nat.ble t 84 then (bif Nat.beq t 84 then some Lm else none) else (bif Nat.ble t 85 then (bif Nat.beq t 85 then some Ln else none) else (bif Nat.beq t 86 then some Lo else none))))) else (bif Nat.ble t 92 then (bif Nat.ble t 89 then (bif Nat.ble t 87 then (bif Nat.beq t 87 then some Lp else none) else (bif Nat.ble t 88 then (bif Nat.beq t 88 then some Lq else none) else (bif Nat.beq t 89 then some Lr else none))) else (bif Nat.ble t 90 then (bif Nat.beq t 90 then some Ls else none) else (bif Nat.ble t 91 then (bif Nat.beq t 91 then some Lt else none) else (bif Nat.beq t 92 then some Lu else none)))) else (bif Nat.ble t 95 then (bif Nat.ble t 93 then (bif Nat.beq t 93 then some Lv else none) else (bif Nat.ble t 94 then (bif Nat.beq t 94 then some Lw else none) else (bif Nat.beq t 95 then some Lx else none))) else (bif Nat.ble t 97 then (bif Nat.beq t 97 then some Ly else none) else (bif Nat.ble t 98 then (bif Nat.beq t 98 then some Lz else none) else (bif Nat.beq t 99 then some LA else none)))))))) else (bif Nat.ble t 148 then (bif Nat.ble t 123 then (bif Nat.ble t 111 then (bif Nat.ble t 105 then (bif Nat.ble t 102 then (bif Nat.ble t 101 then (bif Nat.beq t 101 then some B5 else none) else (bif Nat.beq t 102 then some B6 else none)) else (bif Nat.ble t 103 then (bif Nat.beq t 103 then some B7 else none) else (bif Nat.ble t 104 then (bif Nat.beq t 104 then some B8 else none) else (bif Nat.beq t 105 then some B9 else none)))) else (bif Nat.ble t 108 then (bif Nat.ble t 106 then (bif Nat.beq t 106 then some B_ else none) else (bif Nat.ble t 107 then (bif Nat.beq t 107 then some Ca else none) else (bif Nat.beq t 108 then some Cb else none))) else (bif Nat.ble t 109 then (bif Nat.beq t 109 then some Cc else none) else (bif Nat.ble t 110 then (bif Nat.beq t 110 then some Cd else none) else (bif Nat.beq t 111 then some Ce else none))))) else (bif Nat.ble t 117 then (bif Nat.ble t 114 then (bif Nat.ble t 112 then (bif Nat.beq t 112 then some Cf else none) else (bif Nat.beq t 114 then some Cg else none)) else (bif Nat.ble t 115 then (bif Nat.beq t 115 then some Ch else none) else (bif Nat.ble t 116 then (bif Nat.beq t 116 then some Ci else none) else (bif Nat.beq t 117 then some Cj else none)))) else (bif Nat.ble t 120 then (bif Nat.ble t 118 then (bif Nat.beq t 118 then some Ck else none) else (bif Nat.ble t 119 then (bif Nat.beq t 119 then some Cl else none) else (bif Nat.beq t 120 then some Cm else none))) else (bif Nat.ble t 121 then (bif Nat.beq t 121 then some Cn else none) else (bif Nat.ble t 122 then (bif Nat.beq t 122 then some Co else none) else (bif Nat.beq t 123 then some Cp else none)))))) else (bif Nat.ble t 135 then (bif Nat.ble t 128 then (bif Nat.ble t 125 then (bif Nat.ble t 124 then (bif Nat.beq t 124 then some Cq else none) else (bif Nat.beq t 125 then some Cr else none)) else (bif Nat.ble t 126 then (bif Nat.beq t 126 then some Cs else none) else (bif Nat.ble t 127 then (bif Nat.beq t 127 then some Ct else none) else (bif Nat.beq t 128 then some Cu else none)))) else (bif Nat.ble t 131 then (bif Nat.ble t 129 then (bif Nat.beq t 129 then some Cv else none) else (bif Nat.ble t 130 then (bif Nat.beq t 130 then some Cw else none) else (bif Nat.beq t 131 then some Cy else none))) else (bif Nat.ble t 132 then (bif Nat.beq t 132 then some Cz else none) else (bif Nat.ble t 133 then (bif Nat.beq t 133 then some CA else none) else (bif Nat.beq t 135 then some CB else none))))) else (bif Nat.ble t 141 then (bif Nat.ble t 138 then (bif Nat.ble t 136 then (bif Nat.beq t 136 then some CC else none) else (bif Nat.ble t 137 then (bif Nat.beq t 137 then some CD else none) else (bif Nat.beq t 138 then some CE else none))) else (bif Nat.ble t 139 then (bif Nat.beq t 139 then some CF else none) else (bif Nat.ble t 140 then (bif Nat.beq t 140 then some CG else none) else (bif Nat.beq t 141 then some CH else none)))) else (bif Nat.ble t 144 then (bif Nat.ble t 142 then (bif Nat.beq t 142 then some CI else none) else (bif Nat.ble t 143 then (bif Nat.beq t 143 then some CJ else none) else (bif Nat.beq t 144 then some CK else none))) else (bif Nat.ble t 145 then (bif Nat.beq t 145 then some CL else none) else (bif Nat.ble t 146 then (bif Nat.beq t 146 then some CN else none) else (bif Nat.beq t 148 then some CO else none))))))) else (bif Nat.ble t 174 then (bif Nat.ble t 161 then (bif Nat.ble t 153 then (bif Nat.ble t 150 then (bif Nat.ble t 149 then (bif Nat.beq t 149 then some CP else none) else (bif Nat.beq t 150 then some CQ else none)) else (bif Nat.ble t 151 then (bif Nat.beq t 151 then some CR else none) else (bif Nat.ble t 152 then (bif Nat.beq t 152 then some CS else none) else (bif Nat.beq t 153 then some CT else none)))) else (bif Nat.ble t 158 then (bif Nat.ble t 155 then (bif Nat.beq t 155 then some CU else none) else (bif Nat.ble t 157 then (bif Nat.beq t 157 then some CV else none) else (bif Nat.beq t 158 then some CW else none))) else (bif Nat.ble t 159 then (bif Nat.beq t 159 then some CX else none) else (bif Nat.ble t 160 then (bif Nat.beq t 160 then some CY else none) else (bif Nat.beq t 161 then some CZ else none))))) else (bif Nat.ble t 167 then (bif Nat.ble t 164 then (bif Nat.ble t 162 then (bif Nat.beq t 162 then some C0 else none) else (bif Nat.ble t 163 then (bif Nat.beq t 163 then some C1 else none) else (bif Nat.beq t 164 then some C2 else none))) else (bif Nat.ble t 165 then (bif Nat.beq t 165 then some C3 else none) else (bif Nat.ble t 166 then (bif Nat.beq t 166 then some C4 else none) else (bif Nat.beq t 167 then some C5 else none)))) else (bif Nat.ble t 171 then (bif Nat.ble t 168 then (bif Nat.beq t 168 then some C6 else none) else (bif Nat.ble t 169 then (bif Nat.beq t 169 then some C7 else none) else (bif Nat.beq t 171 then some C8 else none))) else (bif Nat.ble t 172 then (bif Nat.beq t 172 then some C9 else none) else (bif Nat.ble t 173 then (bif Nat.beq t 173 then some C_ else none) else (bif Nat.beq t 174 then some Da else none)))))) else (bif Nat.ble t 186 then (bif Nat.ble t 179 then (bif Nat.ble t 176 then (bif Nat.ble t 175 then (bif Nat.beq t 175 then some Db else none) else (bif Nat.beq t 176 then some Dc else none)) else (bif Nat.ble t 177 then (bif Nat.beq t 177 then some Dd else none) else (bif Nat.ble t 178 then (bif Nat.beq t 178 then some De else none) else (bif Nat.beq t 179 then some Df else none)))) else (bif Nat.ble t 182 then (bif Nat.ble t 180 then (bif Nat.beq t 180 then some Dg else none) else (bif Nat.ble t 181 then (bif Nat.beq t 181 then some Dh else none) else (bif Nat.beq t 182 then some Di else none))) else (bif Nat.ble t 184 then (bif Nat.beq t 184 then some Dj else none) else (bif Nat.ble t 185 then (bif Nat.beq t 185 then some Dk else none) else (bif Nat.beq t 186 then some Dl else none))))) else (bif Nat.ble t 192 then (bif Nat.ble t 189 then (bif Nat.ble t 187 then (bif Nat.beq t 187 then some Dm else none) else (bif Nat.ble t 188 then (bif Nat.beq t 188 then some Dn else none) else (bif Nat.beq t 189 then some Do else none))) else (bif Nat.ble t 190 then (bif Nat.beq t 190 then some Dp else none) else (bif Nat.ble t 191 then (bif Nat.beq t 191 then some Dq else none) else (bif Nat.beq t 192 then some Dt else none)))) else (bif Nat.ble t 195 then (bif Nat.ble t 193 then (bif Nat.beq t 193 then some Du else none) else (bif Nat.ble t 194 then (bif Nat.beq t 194 then some Dv else none) else (bif Nat.beq t 195 then some Dw else none))) else (bif Nat.ble t 197 then (bif Nat.beq t 197 then some Dx else none) else (bif Nat.ble t 198 then (bif Nat.beq t 198 then some Dy else none) else (bif Nat.beq t 199 then some Dz else none)))))))))
theorem Pp : aA Tryz.prog 1=some ti1:=by kernel_rfl
theorem Pq : aA Tryz.prog 2=some ti2:=by kernel_rfl
theorem Pr : aA Tryz.prog 3=some ti3:=by kernel_rfl
theorem Ps : aA Tryz.prog 4=some ti4:=by kernel_rfl
theorem Pt : aA Tryz.prog 5=some ti5:=by kernel_rfl
theorem Pu : aA Tryz.prog 6=some ti6:=by kernel_rfl
theorem Pv : aA Tryz.prog 7=some ti7:=by kernel_rfl
theorem Pw : aA Tryz.prog 8=some ti8:=by kernel_rfl
theorem Px : aA Tryz.prog 9=some ti9:=by kernel_rfl
theorem LB : aA Tryz.prog 10=some Kh:=by kernel_rfl
theorem LD : aA Tryz.prog 11=some Ki:=by kernel_rfl
theorem LF : aA Tryz.prog 12=some Kj:=by kernel_rfl
theorem LG : aA Tryz.prog 13=some Kk:=by kernel_rfl
theorem LH : aA Tryz.prog 14=some Kl:=by kernel_rfl
theorem LI : aA Tryz.prog 15=some Km:=by kernel_rfl
theorem LJ : aA Tryz.prog 16=some Kn:=by kernel_rfl
theorem LK : aA Tryz.prog 17=some Ko:=by kernel_rfl
theorem LL : aA Tryz.prog 18=some Kp:=by kernel_rfl
theorem LM : aA Tryz.prog 19=some Kq:=by kernel_rfl
theorem LN : aA Tryz.prog 20=some Kr:=by kernel_rfl
theorem LO : aA Tryz.prog 21=some Ks:=by kernel_rfl
theorem LP : aA Tryz.prog 22=some Kt:=by kernel_rfl
theorem LQ : aA Tryz.prog 23=some Ku:=by kernel_rfl
theorem LR : aA Tryz.prog 24=some Kv:=by kernel_rfl
theorem LS : aA Tryz.prog 25=some Kw:=by kernel_rfl
theorem LU : aA Tryz.prog 26=some Kx:=by kernel_rfl
theorem LV : aA Tryz.prog 27=some Ky:=by kernel_rfl
theorem LW : aA Tryz.prog 28=some Kz:=by kernel_rfl
theorem LX : aA Tryz.prog 29=some KA:=by kernel_rfl
theorem LY : aA Tryz.prog 30=some KB:=by kernel_rfl
theorem LZ : aA Tryz.prog 31=some KC:=by kernel_rfl
theorem L1 : aA Tryz.prog 32=some KD:=by kernel_rfl
theorem L2 : aA Tryz.prog 33=some KE:=by kernel_rfl
theorem L3 : aA Tryz.prog 34=some KF:=by kernel_rfl
theorem L4 : aA Tryz.prog 35=some KG:=by kernel_rfl
theorem L5 : aA Tryz.prog 36=some KH:=by kernel_rfl
theorem L6 : aA Tryz.prog 38=some KI:=by kernel_rfl
theorem L7 : aA Tryz.prog 39=some KJ:=by kernel_rfl
theorem L8 : aA Tryz.prog 40=some KK:=by kernel_rfl
theorem L9 : aA Tryz.prog 42=some KL:=by kernel_rfl
theorem L_ : aA Tryz.prog 43=some KM:=by kernel_rfl
theorem Ma : aA Tryz.prog 45=some KN:=by kernel_rfl
theorem Mb : aA Tryz.prog 46=some KO:=by kernel_rfl
theorem Mc : aA Tryz.prog 47=some KP:=by kernel_rfl
theorem Md : aA Tryz.prog 48=some KQ:=by kernel_rfl
theorem Me : aA Tryz.prog 49=some KR:=by kernel_rfl
theorem Mf : aA Tryz.prog 50=some KS:=by kernel_rfl
theorem Mg : aA Tryz.prog 51=some KT:=by kernel_rfl
theorem Mh : aA Tryz.prog 52=some KU:=by kernel_rfl
theorem Mi : aA Tryz.prog 53=some KV:=by kernel_rfl
theorem Mj : aA Tryz.prog 54=some KW:=by kernel_rfl
theorem Mk : aA Tryz.prog 55=some KX:=by kernel_rfl
theorem Ml : aA Tryz.prog 56=some KY:=by kernel_rfl
theorem Mm : aA Tryz.prog 57=some KZ:=by kernel_rfl
theorem Mn : aA Tryz.prog 58=some K1:=by kernel_rfl
theorem Mo : aA Tryz.prog 59=some K2:=by kernel_rfl
theorem Mq : aA Tryz.prog 60=some K3:=by kernel_rfl
theorem Mr : aA Tryz.prog 61=some K4:=by kernel_rfl
theorem Ms : aA Tryz.prog 62=some K5:=by kernel_rfl
theorem Mt : aA Tryz.prog 63=some K6:=by kernel_rfl
theorem Mu : aA Tryz.prog 65=some K7:=by kernel_rfl
theorem Mv : aA Tryz.prog 66=some K8:=by kernel_rfl
theorem Mw : aA Tryz.prog 67=some K9:=by kernel_rfl
theorem Mx : aA Tryz.prog 68=some K_:=by kernel_rfl
theorem My : aA Tryz.prog 69=some La:=by kernel_rfl
theorem Mz : aA Tryz.prog 71=some Lb:=by kernel_rfl
theorem MA : aA Tryz.prog 73=some Lc:=by kernel_rfl
theorem MB : aA Tryz.prog 75=some Ld:=by kernel_rfl
theorem MC : aA Tryz.prog 76=some Le:=by kernel_rfl
theorem MD : aA Tryz.prog 77=some Lf:=by kernel_rfl
theorem ME : aA Tryz.prog 78=some Lg:=by kernel_rfl
theorem MF : aA Tryz.prog 79=some Lh:=by kernel_rfl
theorem MG : aA Tryz.prog 80=some Li:=by kernel_rfl
theorem MH : aA Tryz.prog 81=some Lj:=by kernel_rfl
theorem MI : aA Tryz.prog 82=some Lk:=by kernel_rfl
theorem MJ : aA Tryz.prog 83=some Ll:=by kernel_rfl
theorem MK : aA Tryz.prog 84=some Lm:=by kernel_rfl
theorem ML : aA Tryz.prog 85=some Ln:=by kernel_rfl
theorem MM : aA Tryz.prog 86=some Lo:=by kernel_rfl
theorem MN : aA Tryz.prog 87=some Lp:=by kernel_rfl
theorem MO : aA Tryz.prog 88=some Lq:=by kernel_rfl
theorem MP : aA Tryz.prog 89=some Lr:=by kernel_rfl
theorem MQ : aA Tryz.prog 90=some Ls:=by kernel_rfl
theorem MR : aA Tryz.prog 91=some Lt:=by kernel_rfl
theorem MS : aA Tryz.prog 92=some Lu:=by kernel_rfl
theorem MT : aA Tryz.prog 93=some Lv:=by kernel_rfl
theorem MU : aA Tryz.prog 94=some Lw:=by kernel_rfl
theorem MV : aA Tryz.prog 95=some Lx:=by kernel_rfl
theorem MW : aA Tryz.prog 97=some Ly:=by kernel_rfl
theorem MX : aA Tryz.prog 98=some Lz:=by kernel_rfl
theorem MY : aA Tryz.prog 99=some LA:=by kernel_rfl
theorem Ge : aA Tryz.prog 101=some B5:=by kernel_rfl
theorem Gf : aA Tryz.prog 102=some B6:=by kernel_rfl
theorem Gg : aA Tryz.prog 103=some B7:=by kernel_rfl
theorem Gh : aA Tryz.prog 104=some B8:=by kernel_rfl
theorem Gi : aA Tryz.prog 105=some B9:=by kernel_rfl
theorem Gj : aA Tryz.prog 106=some B_:=by kernel_rfl
theorem Gk : aA Tryz.prog 107=some Ca:=by kernel_rfl
theorem Gl : aA Tryz.prog 108=some Cb:=by kernel_rfl
theorem Gm : aA Tryz.prog 109=some Cc:=by kernel_rfl
theorem Gn : aA Tryz.prog 110=some Cd:=by kernel_rfl
theorem Gp : aA Tryz.prog 111=some Ce:=by kernel_rfl
theorem Gq : aA Tryz.prog 112=some Cf:=by kernel_rfl
theorem Gr : aA Tryz.prog 114=some Cg:=by kernel_rfl
theorem Gs : aA Tryz.prog 115=some Ch:=by kernel_rfl
theorem Gt : aA Tryz.prog 116=some Ci:=by kernel_rfl
theorem Gu : aA Tryz.prog 117=some Cj:=by kernel_rfl
theorem Gv : aA Tryz.prog 118=some Ck:=by kernel_rfl
theorem Gw : aA Tryz.prog 119=some Cl:=by kernel_rfl
theorem Gx : aA Tryz.prog 120=some Cm:=by kernel_rfl
theorem Gy : aA Tryz.prog 121=some Cn:=by kernel_rfl
theorem Gz : aA Tryz.prog 122=some Co:=by kernel_rfl
theorem GA : aA Tryz.prog 123=some Cp:=by kernel_rfl
theorem GB : aA Tryz.prog 124=some Cq:=by kernel_rfl
theorem GC : aA Tryz.prog 125=some Cr:=by kernel_rfl
theorem GD : aA Tryz.prog 126=some Cs:=by kernel_rfl
theorem GF : aA Tryz.prog 127=some Ct:=by kernel_rfl
theorem GG : aA Tryz.prog 128=some Cu:=by kernel_rfl
theorem GH : aA Tryz.prog 129=some Cv:=by kernel_rfl
theorem GI : aA Tryz.prog 130=some Cw:=by kernel_rfl
theorem GJ : aA Tryz.prog 131=some Cy:=by kernel_rfl
theorem GK : aA Tryz.prog 132=some Cz:=by kernel_rfl
theorem GL : aA Tryz.prog 133=some CA:=by kernel_rfl
theorem GM : aA Tryz.prog 135=some CB:=by kernel_rfl
theorem GN : aA Tryz.prog 136=some CC:=by kernel_rfl
theorem GO : aA Tryz.prog 137=some CD:=by kernel_rfl
theorem GP : aA Tryz.prog 138=some CE:=by kernel_rfl
theorem GQ : aA Tryz.prog 139=some CF:=by kernel_rfl
theorem GR : aA Tryz.prog 140=some CG:=by kernel_rfl
theorem GS : aA Tryz.prog 141=some CH:=by kernel_rfl
theorem GU : aA Tryz.prog 142=some CI:=by kernel_rfl
theorem GV : aA Tryz.prog 143=some CJ:=by kernel_rfl
theorem GW : aA Tryz.prog 144=some CK:=by kernel_rfl
theorem GX : aA Tryz.prog 145=some CL:=by kernel_rfl
theorem GY : aA Tryz.prog 146=some CN:=by kernel_rfl
theorem GZ : aA Tryz.prog 148=some CO:=by kernel_rfl
theorem G0 : aA Tryz.prog 149=some CP:=by kernel_rfl
theorem G1 : aA Tryz.prog 150=some CQ:=by kernel_rfl
theorem G2 : aA Tryz.prog 151=some CR:=by kernel_rfl
theorem G3 : aA Tryz.prog 152=some CS:=by kernel_rfl
theorem G4 : aA Tryz.prog 153=some CT:=by kernel_rfl
theorem G5 : aA Tryz.prog 155=some CU:=by kernel_rfl
theorem G6 : aA Tryz.prog 157=some CV:=by kernel_rfl
theorem G7 : aA Tryz.prog 158=some CW:=by kernel_rfl
theorem G8 : aA Tryz.prog 159=some CX:=by kernel_rfl
theorem G9 : aA Tryz.prog 160=some CY:=by kernel_rfl
theorem G_ : aA Tryz.prog 161=some CZ:=by kernel_rfl
theorem Ha : aA Tryz.prog 162=some C0:=by kernel_rfl
theorem Hb : aA Tryz.prog 163=some C1:=by kernel_rfl
theorem Hc : aA Tryz.prog 164=some C2:=by kernel_rfl
theorem He : aA Tryz.prog 165=some C3:=by kernel_rfl
theorem Hf : aA Tryz.prog 166=some C4:=by kernel_rfl
theorem Hg : aA Tryz.prog 167=some C5:=by kernel_rfl
theorem Hh : aA Tryz.prog 168=some C6:=by kernel_rfl
theorem Hi : aA Tryz.prog 169=some C7:=by kernel_rfl
theorem Hj : aA Tryz.prog 171=some C8:=by kernel_rfl
theorem Hk : aA Tryz.prog 172=some C9:=by kernel_rfl
theorem Hl : aA Tryz.prog 173=some C_:=by kernel_rfl
theorem Hm : aA Tryz.prog 174=some Da:=by kernel_rfl
theorem Hn : aA Tryz.prog 175=some Db:=by kernel_rfl
theorem Ho : aA Tryz.prog 176=some Dc:=by kernel_rfl
theorem Hq : aA Tryz.prog 177=some Dd:=by kernel_rfl
theorem Hr : aA Tryz.prog 178=some De:=by kernel_rfl
theorem Hs : aA Tryz.prog 179=some Df:=by kernel_rfl
theorem Ht : aA Tryz.prog 180=some Dg:=by kernel_rfl
theorem Hu : aA Tryz.prog 181=some Dh:=by kernel_rfl
theorem Hv : aA Tryz.prog 182=some Di:=by kernel_rfl
theorem Hw : aA Tryz.prog 184=some Dj:=by kernel_rfl
theorem Hz : aA Tryz.prog 185=some Dk:=by kernel_rfl
theorem HA : aA Tryz.prog 186=some Dl:=by kernel_rfl
theorem HB : aA Tryz.prog 187=some Dm:=by kernel_rfl
theorem HC : aA Tryz.prog 188=some Dn:=by kernel_rfl
theorem HD : aA Tryz.prog 189=some Do:=by kernel_rfl
theorem HE : aA Tryz.prog 190=some Dp:=by kernel_rfl
theorem HF : aA Tryz.prog 191=some Dq:=by kernel_rfl
theorem HG : aA Tryz.prog 192=some Dt:=by kernel_rfl
theorem HH : aA Tryz.prog 193=some Du:=by kernel_rfl
theorem HI : aA Tryz.prog 194=some Dv:=by kernel_rfl
theorem HJ : aA Tryz.prog 195=some Dw:=by kernel_rfl
theorem HK : aA Tryz.prog 197=some Dx:=by kernel_rfl
theorem HL : aA Tryz.prog 198=some Dy:=by kernel_rfl
theorem HM : aA Tryz.prog 199=some Dz:=by kernel_rfl
theorem aD : Tis.ok ts Tryz.prog:=(Tis.ok_node (Tis.ok_node (Tis.ok_node (Tis.ok_node (Tis.ok_node (Tis.ok_node (Tis.ok_node (Tis.ok_leaf Pp) (Tis.ok_leaf Pq)) (Tis.ok_node (Tis.ok_leaf Pr) (Tis.ok_node (Tis.ok_leaf Ps) (Tis.ok_leaf Pt)))) (Tis.ok_node (Tis.ok_node (Tis.ok_leaf Pu) (Tis.ok_node (Tis.ok_leaf Pv) (Tis.ok_leaf Pw))) (Tis.ok_node (Tis.ok_leaf Px) (Tis.ok_node (Tis.ok_leaf LB) (Tis.ok_leaf LD))))) (Tis.ok_node (Tis.ok_node (Tis.ok_node (Tis.ok_leaf LF) (Tis.ok_leaf LG)) (Tis.ok_node (Tis.ok_leaf LH) (Tis.ok_node (Tis.ok_leaf LI) (Tis.ok_leaf LJ)))) (Tis.ok_node (Tis.ok_node (Tis.ok_leaf LK) (Tis.ok_node (Tis.ok_leaf LL) (Tis.ok_leaf LM))) (Tis.ok_node (Tis.ok_leaf LN) (Tis.ok_node (Tis.ok_leaf LO) (Tis.ok_leaf LP)))))) (Tis.ok_node (Tis.ok_node (Tis.ok_node (Tis.ok_node (Tis.ok_leaf LQ) (Tis.ok_leaf LR)) (Tis.ok_node (Tis.ok_leaf LS) (Tis.ok_node (Tis.ok_leaf LU) (Tis.ok_leaf LV)))) (Tis.ok_node (Tis.ok_node (Tis.ok_leaf LW) (Tis.ok_node (Tis.ok_leaf LX) (Tis.ok_leaf LY))) (Tis.ok_node (Tis.ok_leaf LZ) (Tis.ok_node (Tis.ok_leaf L1) (Tis.ok_leaf L2))))) (Tis.ok_node (Tis.ok_node (Tis.ok_node (Tis.ok_leaf L3) (Tis.ok_node (Tis.ok_leaf L4) (Tis.ok_leaf L5))) (Tis.ok_node (Tis.ok_leaf L6) (Tis.ok_node (Tis.ok_leaf L7) (Tis.ok_leaf L8)))) (Tis.ok_node (Tis.ok_node (Tis.ok_leaf L9) (Tis.ok_node (Tis.ok_leaf L_) (Tis.ok_leaf Ma))) (Tis.ok_node (Tis.ok_leaf Mb) (Tis.ok_node (Tis.ok_leaf Mc) (Tis.ok_leaf Md))))))) (Tis.ok_node (Tis.ok_node (Tis.ok_node (Tis.ok_node (Tis.ok_node (Tis.ok_leaf Me) (Tis.ok_leaf Mf)) (Tis.ok_node (Tis.ok_leaf Mg) (Tis.ok_node (Tis.ok_leaf Mh) (Tis.ok_leaf Mi)))) (Tis.ok_node (Tis.ok_node (Tis.ok_leaf Mj) (Tis.ok_node (Tis.ok_leaf Mk) (Tis.ok_leaf Ml))) (Tis.ok_node (Tis.ok_leaf Mm) (Tis.ok_node (Tis.ok_leaf Mn) (Tis.ok_leaf Mo))))) (Tis.ok_node (Tis.ok_node (Tis.ok_node (Tis.ok_leaf Mq) (Tis.ok_node (Tis.ok_leaf Mr) (Tis.ok_leaf Ms))) (Tis.ok_node (Tis.ok_leaf Mt) (Tis.ok_node (Tis.ok_leaf Mu) (Tis.ok_leaf Mv)))) (Tis.ok_node (Tis.ok_node (Tis.ok_leaf Mw) (Tis.ok_node (Tis.ok_leaf Mx) (Tis.ok_leaf My))) (Tis.ok_node (Tis.ok_leaf Mz) (Tis.ok_node (Tis.ok_leaf MA) (Tis.ok_leaf MB)))))) (Tis.ok_node (Tis.ok_node (Tis.ok_node (Tis.ok_node (Tis.ok_leaf MC) (Tis.ok_leaf MD)) (Tis.ok_node (Tis.ok_leaf ME) (Tis.ok_node (Tis.ok_leaf MF) (Tis.ok_leaf MG)))) (Tis.ok_node (Tis.ok_node (Tis.ok_leaf MH) (Tis.ok_node (Tis.ok_leaf MI) (Tis.ok_leaf MJ))) (Tis.ok_node (Tis.ok_leaf MK) (Tis.ok_node (Tis.ok_leaf ML) (Tis.ok_leaf MM))))) (Tis.ok_node (Tis.ok_node (Tis.ok_node (Tis.ok_leaf MN) (Tis.ok_node (Tis.ok_leaf MO) (Tis.ok_leaf MP))) (Tis.ok_node (Tis.ok_leaf MQ) (Tis.ok_node (Tis.ok_leaf MR) (Tis.ok_leaf MS)))) (Tis.ok_node (Tis.ok_node (Tis.ok_leaf MT) (Tis.ok_node (Tis.ok_leaf MU) (Tis.ok_leaf MV))) (Tis.ok_node (Tis.ok_leaf MW) (Tis.ok_node (Tis.ok_leaf MX) (Tis.ok_leaf MY)))))))) (Tis.ok_node (Tis.ok_node (Tis.ok_node (Tis.ok_node (Tis.ok_node (Tis.ok_node (Tis.ok_leaf Ge) (Tis.ok_leaf Gf)) (Tis.ok_node (Tis.ok_leaf Gg) (Tis.ok_node (Tis.ok_leaf Gh) (Tis.ok_leaf Gi)))) (Tis.ok_node (Tis.ok_node (Tis.ok_leaf Gj) (Tis.ok_node (Tis.ok_leaf Gk) (Tis.ok_leaf Gl))) (Tis.ok_node (Tis.ok_leaf Gm) (Tis.ok_node (Tis.ok_leaf Gn) (Tis.ok_leaf Gp))))) (Tis.ok_node (Tis.ok_node (Tis.ok_node (Tis.ok_leaf Gq) (Tis.ok_leaf Gr)) (Tis.ok_node (Tis.ok_leaf Gs) (Tis.ok_node (Tis.ok_leaf Gt) (Tis.ok_leaf Gu)))) (Tis.ok_node (Tis.ok_node (Tis.ok_leaf Gv) (Tis.ok_node (Tis.ok_leaf Gw) (Tis.ok_leaf Gx))) (Tis.ok_node (Tis.ok_leaf Gy) (Tis.ok_node (Tis.ok_leaf Gz) (Tis.ok_leaf GA)))))) (Tis.ok_node (Tis.ok_node (Tis.ok_node (Tis.ok_node (Tis.ok_leaf GB) (Tis.ok_leaf GC)) (Tis.ok_node (Tis.ok_leaf GD) (Tis.ok_node (Tis.ok_leaf GF) (Tis.ok_leaf GG)))) (Tis.ok_node (Tis.ok_node (Tis.ok_leaf GH) (Tis.ok_node (Tis.ok_leaf GI) (Tis.ok_leaf GJ))) (Tis.ok_node (Tis.ok_leaf GK) (Tis.ok_node (Tis.ok_leaf GL) (Tis.ok_leaf GM))))) (Tis.ok_node (Tis.ok_node (Tis.ok_node (Tis.ok_leaf GN) (Tis.ok_node (Tis.ok_leaf GO) (Tis.ok_leaf GP))) (Tis.ok_node (Tis.ok_leaf GQ) (Tis.ok_node (Tis.ok_leaf GR) (Tis.ok_leaf GS)))) (Tis.ok_node (Tis.ok_node (Tis.ok_leaf GU) (Tis.ok_node (Tis.ok_leaf GV) (Tis.ok_leaf GW))) (Tis.ok_node (Tis.ok_leaf GX) (Tis.ok_node (Tis.ok_leaf GY) (Tis.ok_leaf GZ))))))) (Tis.ok_node (Tis.ok_node (Tis.ok_node (Tis.ok_node (Tis.ok_node (Tis.ok_leaf G0) (Tis.ok_leaf G1)) (Tis.ok_node (Tis.ok_leaf G2) (Tis.ok_node (Tis.ok_leaf G3) (Tis.ok_leaf G4)))) (Tis.ok_node (Tis.ok_node (Tis.ok_leaf G5) (Tis.ok_node (Tis.ok_leaf G6) (Tis.ok_leaf G7))) (Tis.ok_node (Tis.ok_leaf G8) (Tis.ok_node (Tis.ok_leaf G9) (Tis.ok_leaf G_))))) (Tis.ok_node (Tis.ok_node (Tis.ok_node (Tis.ok_leaf Ha) (Tis.ok_node (Tis.ok_leaf Hb) (Tis.ok_leaf Hc))) (Tis.ok_node (Tis.ok_leaf He) (Tis.ok_node (Tis.ok_leaf Hf) (Tis.ok_leaf Hg)))) (Tis.ok_node (Tis.ok_node (Tis.ok_leaf Hh) (Tis.ok_node (Tis.ok_leaf Hi) (Tis.ok_leaf Hj))) (Tis.ok_node (Tis.ok_leaf Hk) (Tis.ok_node (Tis.ok_leaf Hl) (Tis.ok_leaf Hm)))))) (Tis.ok_node (Tis.ok_node (Tis.ok_node (Tis.ok_node (Tis.ok_leaf Hn) (Tis.ok_leaf Ho)) (Tis.ok_node (Tis.ok_leaf Hq) (Tis.ok_node (Tis.ok_leaf Hr) (Tis.ok_leaf Hs)))) (Tis.ok_node (Tis.ok_node (Tis.ok_leaf Ht) (Tis.ok_node (Tis.ok_leaf Hu) (Tis.ok_leaf Hv))) (Tis.ok_node (Tis.ok_leaf Hw) (Tis.ok_node (Tis.ok_leaf Hz) (Tis.ok_leaf HA))))) (Tis.ok_node (Tis.ok_node (Tis.ok_node (Tis.ok_leaf HB) (Tis.ok_node (Tis.ok_leaf HC) (Tis.ok_leaf HD))) (Tis.ok_node (Tis.ok_leaf HE) (Tis.ok_node (Tis.ok_leaf HF) (Tis.ok_leaf HG)))) (Tis.ok_node (Tis.ok_node (Tis.ok_leaf HH) (Tis.ok_node (Tis.ok_leaf HI) (Tis.ok_leaf HJ))) (Tis.ok_node (Tis.ok_leaf HK) (Tis.ok_node (Tis.ok_leaf HL) (Tis.ok_leaf HM)))))))))
@[go_sem] theorem ts_1 : ts 1=some ti1:=(rfl)
@[go_sem] theorem ts_2 : ts 2=some ti2:=(rfl)
@[go_sem] theorem ts_3 : ts 3=some ti3:=(rfl)
@[go_sem] theorem ts_4 : ts 4=some ti4:=(rfl)
@[go_sem] theorem ts_5 : ts 5=some ti5:=(rfl)
@[go_sem] theorem ts_6 : ts 6=some ti6:=(rfl)
@[go_sem] theorem ts_7 : ts 7=some ti7:=(rfl)
@[go_sem] theorem ts_8 : ts 8=some ti8:=(rfl)
@[go_sem] theorem ts_9 : ts 9=some ti9:=(rfl)
@[go_sem] theorem ts_10 : ts 10=some Kh:=(rfl)
@[go_sem] theorem ts_11 : ts 11=some Ki:=(rfl)
@[go_sem] theorem ts_12 : ts 12=some Kj:=(rfl)
@[go_sem] theorem ts_13 : ts 13=some Kk:=(rfl)
@[go_sem] theorem ts_14 : ts 14=some Kl:=(rfl)
@[go_sem] theorem ts_15 : ts 15=some Km:=(rfl)
@[go_sem] theorem ts_16 : ts 16=some Kn:=(rfl)
@[go_sem] theorem ts_17 : ts 17=some Ko:=(rfl)
@[go_sem] theorem ts_18 : ts 18=some Kp:=(rfl)
@[go_sem] theorem ts_19 : ts 19=some Kq:=(rfl)
@[go_sem] theorem ts_20 : ts 20=some Kr:=(rfl)
@[go_sem] theorem ts_21 : ts 21=some Ks:=(rfl)
@[go_sem] theorem ts_22 : ts 22=some Kt:=(rfl)
@[go_sem] theorem ts_23 : ts 23=some Ku:=(rfl)
@[go_sem] theorem ts_24 : ts 24=some Kv:=(rfl)
@[go_sem] theorem ts_25 : ts 25=some Kw:=(rfl)
@[go_sem] theorem ts_26 : ts 26=some Kx:=(rfl)
@[go_sem] theorem ts_27 : ts 27=some Ky:=(rfl)
@[go_sem] theorem ts_28 : ts 28=some Kz:=(rfl)
@[go_sem] theorem ts_29 : ts 29=some KA:=(rfl)
@[go_sem] theorem ts_30 : ts 30=some KB:=(rfl)
@[go_sem] theorem ts_31 : ts 31=some KC:=(rfl)
@[go_sem] theorem ts_32 : ts 32=some KD:=(rfl)
@[go_sem] theorem ts_33 : ts 33=some KE:=(rfl)
@[go_sem] theorem ts_34 : ts 34=some KF:=(rfl)
@[go_sem] theorem ts_35 : ts 35=some KG:=(rfl)
@[go_sem] theorem ts_36 : ts 36=some KH:=(rfl)
@[go_sem] theorem ts_38 : ts 38=some KI:=(rfl)
@[go_sem] theorem ts_39 : ts 39=some KJ:=(rfl)
@[go_sem] theorem ts_40 : ts 40=some KK:=(rfl)
@[go_sem] theorem ts_42 : ts 42=some KL:=(rfl)
@[go_sem] theorem ts_43 : ts 43=some KM:=(rfl)
@[go_sem] theorem ts_45 : ts 45=some KN:=(rfl)
@[go_sem] theorem ts_46 : ts 46=some KO:=(rfl)
@[go_sem] theorem ts_47 : ts 47=some KP:=(rfl)
@[go_sem] theorem ts_48 : ts 48=some KQ:=(rfl)
@[go_sem] theorem ts_49 : ts 49=some KR:=(rfl)
@[go_sem] theorem ts_50 : ts 50=some KS:=(rfl)
@[go_sem] theorem ts_51 : ts 51=some KT:=(rfl)
@[go_sem] theorem ts_52 : ts 52=some KU:=(rfl)
@[go_sem] theorem ts_53 : ts 53=some KV:=(rfl)
@[go_sem] theorem ts_54 : ts 54=some KW:=(rfl)
@[go_sem] theorem ts_55 : ts 55=some KX:=(rfl)
@[go_sem] theorem ts_56 : ts 56=some KY:=(rfl)
@[go_sem] theorem ts_57 : ts 57=some KZ:=(rfl)
@[go_sem] theorem ts_58 : ts 58=some K1:=(rfl)
@[go_sem] theorem ts_59 : ts 59=some K2:=(rfl)
@[go_sem] theorem ts_60 : ts 60=some K3:=(rfl)
@[go_sem] theorem ts_61 : ts 61=some K4:=(rfl)
@[go_sem] theorem ts_62 : ts 62=some K5:=(rfl)
@[go_sem] theorem ts_63 : ts 63=some K6:=(rfl)
@[go_sem] theorem ts_65 : ts 65=some K7:=(rfl)
@[go_sem] theorem ts_66 : ts 66=some K8:=(rfl)
@[go_sem] theorem ts_67 : ts 67=some K9:=(rfl)
@[go_sem] theorem ts_68 : ts 68=some K_:=(rfl)
@[go_sem] theorem ts_69 : ts 69=some La:=(rfl)
@[go_sem] theorem ts_71 : ts 71=some Lb:=(rfl)
@[go_sem] theorem ts_73 : ts 73=some Lc:=(rfl)
@[go_sem] theorem ts_75 : ts 75=some Ld:=(rfl)
@[go_sem] theorem ts_76 : ts 76=some Le:=(rfl)
@[go_sem] theorem ts_77 : ts 77=some Lf:=(rfl)
@[go_sem] theorem ts_78 : ts 78=some Lg:=(rfl)
@[go_sem] theorem ts_79 : ts 79=some Lh:=(rfl)
@[go_sem] theorem ts_80 : ts 80=some Li:=(rfl)
@[go_sem] theorem ts_81 : ts 81=some Lj:=(rfl)
@[go_sem] theorem ts_82 : ts 82=some Lk:=(rfl)
@[go_sem] theorem ts_83 : ts 83=some Ll:=(rfl)
@[go_sem] theorem ts_84 : ts 84=some Lm:=(rfl)
@[go_sem] theorem ts_85 : ts 85=some Ln:=(rfl)
@[go_sem] theorem ts_86 : ts 86=some Lo:=(rfl)
@[go_sem] theorem ts_87 : ts 87=some Lp:=(rfl)
@[go_sem] theorem ts_88 : ts 88=some Lq:=(rfl)
@[go_sem] theorem ts_89 : ts 89=some Lr:=(rfl)
@[go_sem] theorem ts_90 : ts 90=some Ls:=(rfl)
@[go_sem] theorem ts_91 : ts 91=some Lt:=(rfl)
@[go_sem] theorem ts_92 : ts 92=some Lu:=(rfl)
@[go_sem] theorem ts_93 : ts 93=some Lv:=(rfl)
@[go_sem] theorem ts_94 : ts 94=some Lw:=(rfl)
@[go_sem] theorem ts_95 : ts 95=some Lx:=(rfl)
@[go_sem] theorem ts_97 : ts 97=some Ly:=(rfl)
@[go_sem] theorem ts_98 : ts 98=some Lz:=(rfl)
@[go_sem] theorem ts_99 : ts 99=some LA:=(rfl)
@[go_sem] theorem Vt : ts 101=some B5:=(rfl)
@[go_sem] theorem Vu : ts 102=some B6:=(rfl)
@[go_sem] theorem Vv : ts 103=some B7:=(rfl)
@[go_sem] theorem Vw : ts 104=some B8:=(rfl)
@[go_sem] theorem Vx : ts 105=some B9:=(rfl)
@[go_sem] theorem Vy : ts 106=some B_:=(rfl)
@[go_sem] theorem Vz : ts 107=some Ca:=(rfl)
@[go_sem] theorem VA : ts 108=some Cb:=(rfl)
@[go_sem] theorem VB : ts 109=some Cc:=(rfl)
@[go_sem] theorem VC : ts 110=some Cd:=(rfl)
@[go_sem] theorem VD : ts 111=some Ce:=(rfl)
@[go_sem] theorem VE : ts 112=some Cf:=(rfl)
@[go_sem] theorem VF : ts 114=some Cg:=(rfl)
@[go_sem] theorem VG : ts 115=some Ch:=(rfl)
@[go_sem] theorem VH : ts 116=some Ci:=(rfl)
@[go_sem] theorem VI : ts 117=some Cj:=(rfl)
@[go_sem] theorem VJ : ts 118=some Ck:=(rfl)
@[go_sem] theorem VK : ts 119=some Cl:=(rfl)
@[go_sem] theorem VL : ts 120=some Cm:=(rfl)
@[go_sem] theorem VM : ts 121=some Cn:=(rfl)
@[go_sem] theorem VN : ts 122=some Co:=(rfl)
@[go_sem] theorem VO : ts 123=some Cp:=(rfl)
@[go_sem] theorem VP : ts 124=some Cq:=(rfl)
@[go_sem] theorem VQ : ts 125=some Cr:=(rfl)
@[go_sem] theorem VR : ts 126=some Cs:=(rfl)
@[go_sem] theorem VS : ts 127=some Ct:=(rfl)
@[go_sem] theorem VT : ts 128=some Cu:=(rfl)
@[go_sem] theorem VU : ts 129=some Cv:=(rfl)
@[go_sem] theorem VV : ts 130=some Cw:=(rfl)
@[go_sem] theorem VW : ts 131=some Cy:=(rfl)
@[go_sem] theorem VX : ts 132=some Cz:=(rfl)
@[go_sem] theorem VY : ts 133=some CA:=(rfl)
@[go_sem] theorem VZ : ts 135=some CB:=(rfl)
@[go_sem] theorem V0 : ts 136=some CC:=(rfl)
@[go_sem] theorem V1 : ts 137=some CD:=(rfl)
@[go_sem] theorem V2 : ts 138=some CE:=(rfl)
@[go_sem] theorem V3 : ts 139=some CF:=(rfl)
@[go_sem] theorem V4 : ts 140=some CG:=(rfl)
@[go_sem] theorem V5 : ts 141=some CH:=(rfl)
@[go_sem] theorem V6 : ts 142=some CI:=(rfl)
@[go_sem] theorem V7 : ts 143=some CJ:=(rfl)
@[go_sem] theorem V8 : ts 144=some CK:=(rfl)
@[go_sem] theorem V9 : ts 145=some CL:=(rfl)
@[go_sem] theorem V_ : ts 146=some CN:=(rfl)
@[go_sem] theorem Wa : ts 148=some CO:=(rfl)
@[go_sem] theorem Wb : ts 149=some CP:=(rfl)
@[go_sem] theorem Wc : ts 150=some CQ:=(rfl)
@[go_sem] theorem Wd : ts 151=some CR:=(rfl)
@[go_sem] theorem We : ts 152=some CS:=(rfl)
@[go_sem] theorem Wf : ts 153=some CT:=(rfl)
@[go_sem] theorem Wg : ts 155=some CU:=(rfl)
@[go_sem] theorem Wh : ts 157=some CV:=(rfl)
@[go_sem] theorem Wi : ts 158=some CW:=(rfl)
@[go_sem] theorem Wj : ts 159=some CX:=(rfl)
@[go_sem] theorem Wk : ts 160=some CY:=(rfl)
@[go_sem] theorem Wl : ts 161=some CZ:=(rfl)
@[go_sem] theorem Wm : ts 162=some C0:=(rfl)
@[go_sem] theorem Wn : ts 163=some C1:=(rfl)
@[go_sem] theorem Wo : ts 164=some C2:=(rfl)
@[go_sem] theorem Wp : ts 165=some C3:=(rfl)
@[go_sem] theorem Wq : ts 166=some C4:=(rfl)
@[go_sem] theorem Wr : ts 167=some C5:=(rfl)
@[go_sem] theorem Ws : ts 168=some C6:=(rfl)
@[go_sem] theorem Wt : ts 169=some C7:=(rfl)
@[go_sem] theorem Wu : ts 171=some C8:=(rfl)
@[go_sem] theorem Wv : ts 172=some C9:=(rfl)
@[go_sem] theorem Ww : ts 173=some C_:=(rfl)
@[go_sem] theorem Wx : ts 174=some Da:=(rfl)
@[go_sem] theorem Wy : ts 175=some Db:=(rfl)
@[go_sem] theorem Wz : ts 176=some Dc:=(rfl)
@[go_sem] theorem WA : ts 177=some Dd:=(rfl)
@[go_sem] theorem WB : ts 178=some De:=(rfl)
@[go_sem] theorem WC : ts 179=some Df:=(rfl)
@[go_sem] theorem WD : ts 180=some Dg:=(rfl)
@[go_sem] theorem WE : ts 181=some Dh:=(rfl)
@[go_sem] theorem WF : ts 182=some Di:=(rfl)
@[go_sem] theorem WG : ts 184=some Dj:=(rfl)
@[go_sem] theorem WH : ts 185=some Dk:=(rfl)
@[go_sem] theorem WI : ts 186=some Dl:=(rfl)
@[go_sem] theorem WJ : ts 187=some Dm:=(rfl)
@[go_sem] theorem WK : ts 188=some Dn:=(rfl)
@[go_sem] theorem WL : ts 189=some Do:=(rfl)
@[go_sem] theorem WN : ts 190=some Dp:=(rfl)
@[go_sem] theorem WO : ts 191=some Dq:=(rfl)
@[go_sem] theorem WP : ts 192=some Dt:=(rfl)
@[go_sem] theorem WQ : ts 193=some Du:=(rfl)
@[go_sem] theorem WR : ts 194=some Dv:=(rfl)
@[go_sem] theorem WS : ts 195=some Dw:=(rfl)
@[go_sem] theorem WT : ts 197=some Dx:=(rfl)
@[go_sem] theorem WU : ts 198=some Dy:=(rfl)
@[go_sem] theorem WV : ts 199=some Dz:=(rfl)
attribute [go_sem] ti1 ti2 ti3 ti4 ti5 ti6 ti7 ti8 ti9 Kh Ki Kj Kk Kl Km Kn Ko Kp Kq Kr Ks Kt Ku Kv Kw Kx Ky Kz KA KB KC KD KE KF KG KH KI KJ KK KL KM KN KO KP KQ KR KS KT KU KV KW KX KY KZ K1 K2 K3 K4 K5 K6 K7 K8 K9 K_ La Lb Lc Ld Le Lf Lg Lh Li Lj Lk Ll Lm Ln Lo Lp Lq Lr Ls Lt Lu Lv Lw Lx Ly Lz LA B5 B6 B7 B8 B9 B_ Ca Cb Cc Cd Ce Cf Cg Ch Ci Cj Ck Cl Cm Cn Co Cp Cq Cr Cs Ct Cu Cv Cw Cy Cz CA CB CC CD CE CF CG CH CI CJ CK CL CN CO CP CQ CR CS CT CU CV CW CX CY CZ C0 C1 C2 C3 C4 C5 C6 C7 C8 C9 C_ Da Db Dc Dd De Df Dg Dh Di Dj Dk Dl Dm Dn Do Dp Dq Dt Du Dv Dw Dx Dy Dz
end Go.Sx
end
section
namespace Go.Sx
open Go.Proofs
theorem mixed : Tryz.prog.follows .mixedOrders=true:=by kernel_rfl
end Go.Sx
end
section
namespace Go.Sx
open Go.Proofs
set_option maxRecDepth 100000
def fj : List SV→Option Con
 | [.v (.iface t (.int .i64 e))] => bif Nat.beq t 169 then some (.det True (.i e)) else none
 | _=> none
theorem rq : FnOk Tryz.prog 74 fj:=by
 have hG : ConsOk Tryz.prog (mkG [] []) :=aN (by simp) (by simp)
 refine a_ [.o] mixed aD hG (fn:=Tryz.f74) (c:=ag Tryz.f74) (by kernel_rfl) (by kernel_rfl) (by kernel_rfl) (by kernel_rfl) fun l con h hp=> ?_
 unfold fj at h
 split at h
 ·rename_i t e
  cases ht : Nat.beq t 169 with
  | false=> rw [ht] at h;cases h
  | true=>
   rw [ht] at h
   cases h
   have ht':=Nat.eq_of_beq_eq_true ht
   subst ht'
   refine ⟨Nat.le_of_ble_eq_true rfl,L0,by unfold ag Tryz.f74;simp only [aw,and_self],?_⟩
   unfold ag Tryz.f74
   simp only [go_sem,true_imp_iff,false_imp_iff,Nat.reduceBEq,Nat.reduceLeDiff,Nat.reduceAdd,Nat.reduceSub,Nat.reduceMul,true_and,and_true,implies_true,reduceCtorEq]
 ·cases h
def Py : Value→Option SV
 | .iface t (.int .i64 e) => bif Nat.beq t 169 then some (.i e) else none
 | _=> none
theorem HN : N6 Tryz.prog 73 Py:=by
 obtain ⟨fn,hfn,hbody,hn,hres⟩ : ∃ fn,Tryz.prog.funcs[73]? =some fn∧fn.body=some (ag Tryz.f73)∧fn.ntmps=7∧fn.results= #[] :=⟨Tryz.f73,by kernel_rfl,by kernel_rfl,by kernel_rfl,by kernel_rfl⟩
 have hG : ConsOk Tryz.prog (mkG [(74,fj)] []) :=aN (by
  intro x hx
  simp only [List.mem_cons,List.not_mem_nil,or_false] at hx
  rcases hx with rfl
  exact rq) (by simp)
 refine ⟨fun args w=> by kernel_rfl,fun p w=> ?_,?_⟩
 ·refine callsDIn_of_wpSIn hfn hbody trivial fun c₀ cs hu=> ?_
  unfold ag Tryz.f73
  refine wpSIn_seq (wpSIn_region ?_)
  simp [wpOpsSIn,go_sem,recoverD,hu,hn,Exit.thenS,Oper.about,Region.wanted]
  refine wpSIn_seq (wpSIn_region ?_)
  simp [wpOpsSIn,go_sem,recoverD,hu,Exit.thenS,Oper.about,Region.wanted]
  refine wpSIn_cond (t:=false) (by simp [Act.eval]) ?_
  simp only [Bool.false_eq_true,if_false]
  refine wpSIn_of_wpIn rfl (wpIn_skip ?_)
  cases c₀
  simp_all [bodyPostS,results]
 ·intro x s hx F own w h id hd b y hp hob ho hpb
  unfold Py at hx
  split at hx
  ·rename_i t e
   cases ht : Nat.beq t 169 with
   | false=> rw [ht] at hx;cases hx
   | true=>
    rw [ht] at hx
    cases hx
    have ht':=Nat.eq_of_beq_eq_true ht
    subst ht'
    refine callsDIn_of_wpSIn hfn hbody trivial fun c₀ cs hu=> ?_
    unfold ag Tryz.f73
    refine wpSIn_seq (wpSIn_region ?_)
    simp [wpOpsSIn,go_sem,recoverD,hu,hn,Exit.thenS,Oper.about,Region.wanted]
    refine wpSIn_seq (wpSIn_region ?_)
    simp [wpOpsSIn,go_sem,recoverD,hu,Exit.thenS,Oper.about,Region.wanted]
    refine wpSIn_cond (t:=true) (by simp [Act.eval]) ?_
    simp only [if_true]
    refine wpSIn_of_wpIn rfl ?_
    have hr : StRel F { w:=w,own:=own} 7 own ⟨[(0,.ptr id 0),(1,.v (.iface 169 (.int .i64 e)))],h⟩ { tmps:= #[.pointer (some ⟨b,0,none⟩),.iface 169 (.int .i64 e),.iface 169 (.int .i64 e),.iface 169 (.int .i64 e),.bool true,undef,undef],defers:=[]} w:=by
     refine ⟨rfl,Dfr.nil,hp,Fr.refl { w:=w,own:=own},fun t=> ?_⟩
     rw [jt]
     by_cases h0 : 0=t
     ·subst h0;rw [if_pos rfl];exact .ptr ho hpb
     ·rw [if_neg h0,jt]
      by_cases h1 : 1=t
      ·subst h1;rw [if_pos rfl];exact .v _
      ·rw [if_neg h1];exact .any _
    refine wpIn_mono (Bf (ts:=ts) (L:=L0) (Q:=fun st=> st.h=bM h id (.cells [.i e])) mixed aD hG (by kernel_rfl) ?_ hr) ?_
    ·simp only [go_sem,hob,fj,Nat.reduceBEq,Nat.reduceLeDiff,Nat.reduceAdd,true_and,and_true,true_imp_iff]
    ·rintro ex a' w' ⟨rfl,own1,st1,hst1,hh⟩
     have hd0 : a'.defers=[] :=by
      obtain ⟨ms,Ds,q0,q1,q2,q3⟩ :=hst1.defers
      cases Ds with
      | nil=> rw [q0];simp at q1;simp [q1]
      | cons D r=>
       obtain ⟨m1,m2,_⟩ :=q3 D (by simp)
       have:=hp.foreign D m2
       simp only at m1
       omega
     refine ⟨hd0,.panicking [{ v:= .iface 169 (.int .i64 e),recovered:=true}],?_,_,by simp [results,hres];rfl,⟨_,rfl⟩,rfl,own1,hh▸hst1.hp,hst1.fr⟩
     cases c₀
     simp_all
  ·cases hx
attribute [go_sem] fj
end Go.Sx
end
section
namespace Go.Sx
open Go.Proofs
set_option maxRecDepth 100000
set_option linter.unusedSimpArgs false
abbrev SV.u (n : Nat) : SV:= .v (.int .u64 (n : Int))
def ub (ps : List (Nat×(List SV→Option Con))) (os : List (Nat×(List SV→List Ob→Option HCon))) (Y : List SV→Res→Option YCon) : Cons:=⟨mkP ps,mkO os,Y⟩
@[go_sem] theorem WW {ps : List (Nat×(List SV→Option Con))} {os : List (Nat×(List SV→List Ob→Option HCon))} {Y : List SV→Res→Option YCon} : (ub ps os Y).p=mkP ps:=(rfl)
@[go_sem] theorem WX {ps : List (Nat×(List SV→Option Con))} {os : List (Nat×(List SV→List Ob→Option HCon))} {Y : List SV→Res→Option YCon} : (ub ps os Y).o=mkO os:=(rfl)
@[go_sem] theorem WY {ps : List (Nat×(List SV→Option Con))} {os : List (Nat×(List SV→List Ob→Option HCon))} {Y : List SV→Res→Option YCon} : (ub ps os Y).y=Y:=(rfl)
theorem qk {P : Program} {ps : List (Nat×(List SV→Option Con))} {os : List (Nat×(List SV→List Ob→Option HCon))} {Y : List SV→Res→Option YCon} (h1 : ∀ x∈ps,FnOk P x.1 x.2) (h2 : ∀ x∈os,FnOkO P x.1 x.2) (h3 : YOk P Y) : ConsOk P (ub ps os Y) :=⟨Bb ps h1,Bc os h2,h3⟩
def C90 : List SV→List Ob→Option HCon:=fun l h=> noH h ((pU fun n=> pU fun d=> pE { α:=Unit,pre:=True,post:=fun _=> True,res:=fun _=> .ret (.fn 190 [] [.ptr 0 0,.ptr 1 0]) [.cells [.v (.int .u64 n)],.cells [.v (.int .u64 d)]]}) l)
theorem Pz : FnOkO Tryz.prog 184 C90:=by
 have hG : ConsOk Tryz.prog (mkG [] []) :=aN (by simp) (by simp)
 refine qj mixed aD hG (fn:=Tryz.f184) (c:=ag Tryz.f184) (by kernel_rfl) (by kernel_rfl) (by kernel_rfl) (by kernel_rfl) fun l o con h hp=> ?_
 unfold C90 at h
 obtain ⟨rfl,h⟩ :=Ka h
 obtain ⟨n,l0,rfl,h0⟩ :=xr h
 obtain ⟨d,l1,rfl,h1⟩ :=xr h0
 obtain ⟨rfl,rfl⟩ :=iJ h1
 refine ⟨Nat.le_of_ble_eq_true rfl,L0,by unfold ag Tryz.f184;simp only [aw,and_self],?_⟩
 unfold ag Tryz.f184
 simp only [go_sem,true_imp_iff,decide_eq_true_eq,Nat.reduceBEq,Nat.reduceLeDiff,Nat.reduceAdd,Nat.reduceSub,Nat.reduceMul,true_and,and_true,implies_true]
 refine ⟨(),_,_,[0,1],rfl,?_⟩
 simp only [go_sem,Nat.reduceBEq,Nat.reduceLeDiff,Nat.reduceAdd,true_and,and_true]
 exact ⟨rfl,rfl⟩
def vn : Nat→Nat→Nat→List Nat
 | 0,n,d=> if n=0 then [] else [n,d]
 | f + 1,n,d=> if n=0 then [] else n :: (if n % max d 1=0 then [d] else vn f d (n % max d 1))
def ju (f n d : Nat) : List (List SV) :=(vn f n d).map fun x=> [SV.u x]
theorem HO (f d : Nat) : ju f 0 d=[] :=by cases f <;> rfl
theorem HP {f n d : Nat} (hn : n≠0) (hf : d≤f) : ∃ T,ju f n d=[SV.u n] :: T∧(n % max d 1=0→T=[[SV.u d]])∧(n % max d 1≠0→∃ f',T=ju f' d (n % max d 1)∧n % max d 1≤f'∧n % max d 1 < d) :=by
 cases f with
 | zero=>
  have hd : d=0:=by omega
  subst hd
  refine ⟨[[SV.u 0]],by simp [ju,vn,hn],fun _=> rfl,fun h=> ?_⟩
  exfalso;apply h;simp [Nat.mod_one]
 | succ f=>
  by_cases h0 : n % max d 1=0
  ·exact ⟨[[SV.u d]],by simp [ju,vn,hn,h0],fun _=> rfl,fun h=> absurd h0 h⟩
  ·refine ⟨ju f d (n % max d 1),by simp [ju,vn,hn,h0],fun h=> absurd h h0,fun _=> ⟨f,rfl,?_⟩⟩
   have hlt : n % max d 1 < max d 1:=Nat.mod_lt _ (by omega)
   have hd : 1≤d:=by
    rcases Nat.eq_zero_or_pos d with h | h
    ·subst h;exfalso;apply h0;simp [Nat.mod_one]
    ·exact h
   omega
theorem HQ (n d : Nat) : ((n : Int).tmod (if (d : Int) < 1 then 1 else (d : Int)))=((n % max d 1 : Nat) : Int) :=by
 have e : (if (d : Int) < 1 then (1 : Int) else (d : Int))=((max d 1 : Nat) : Int) :=by split <;> omega
 rw [e,Int.tmod_eq_emod_of_nonneg (by omega)];rfl
open Classical in
theorem PA (n0 d0 : Nat) : xx Tryz.prog 190 (fun y=> [y,.ptr 1 0,.ptr 2 0]) [.cells [SV.u n0],.cells [SV.u d0]] (ju d0 n0 d0) :=by
 refine B4 (fun r hr hy=> ?_) (fun args w=> by kernel_rfl)
 have hG : ConsOk Tryz.prog (ub [] [] (itY (ju d0 n0 d0) r)) :=qk (by simp) (by simp) hy
 refine ⟨fun l h=> if l=[.os 0,.ptr 1 0,.ptr 2 0]∧h=[.ab (r 1),.cells [SV.u n0],.cells [SV.u d0]] then some { α:=Nat,pre:=True,post:=fun j=> j=0∨j=(ju d0 n0 d0).length + 1,res:=fun j=> .ret (.tup []) [.ab (r j),.dead,.dead]} else none,
  ?_,_,if_pos ⟨rfl,rfl⟩,trivial,fun j hj=> ⟨_,j,_,rfl,hj⟩⟩
 refine qj mixed aD hG (fn:=Tryz.f190) (c:=ag Tryz.f190) (by kernel_rfl) (by kernel_rfl) (by kernel_rfl) (by kernel_rfl) fun l o con h hp=> ?_
 split at h
 ·rename_i hlo
  obtain ⟨rfl,rfl⟩ :=hlo
  cases h
  refine ⟨Nat.le_of_ble_eq_true rfl,fun id st=> bif Nat.beq id 0 then some { α:=Nat×Bool,pre:=lk 0 st.t= .os 0∧lk 1 st.t= .ptr 1 0∧lk 2 st.t= .ptr 2 0∧st.h=[.ab (r 1),.cells [SV.u n0],.cells [SV.u d0]],post:=fun j=> j.1=0∨j.1=(ju d0 n0 d0).length + 1,ex:=fun j=> bif j.2 then .ret else .normal,out:=fun j=> ⟨[],[.ab (r j.1),.dead,.dead]⟩ : LCon} else none,?_,?_⟩
  ·unfold ag Tryz.f190
   simp only [aw,true_and,and_true]
   refine lE mixed aD hG (by kernel_rfl) fun st lc hC hp=> ?_
   simp only [go_sem,Nat.reduceBEq,Option.some.injEq] at hC
   subst hC
   obtain ⟨t,h⟩ :=st
   dsimp only at hp
   obtain ⟨h0,h1,h2,rfl⟩ :=hp
   refine ⟨Nat×Nat×Nat×Nat,fun x=> ⟨[(0,.os 0),(1,.ptr 1 0),(2,.ptr 2 0)],[.ab (r (x.1 + 1)),.cells [SV.u x.2.2.1],.cells [SV.u x.2.2.2]]⟩,fun x=> x.2.2.2≤x.2.1∧(ju d0 n0 d0).drop x.1=ju x.2.1 x.2.2.1 x.2.2.2∧x.1≤(ju d0 n0 d0).length,fun x=> x.2.2.2,(0,d0,n0,d0),[0,1,2],⟨Nat.le_refl _,rfl,Nat.zero_le _⟩,Nat.le_refl _,?_,?_⟩
   ·simp only [go_sem,h0,h1,h2,Nat.reduceBEq,Nat.reduceLeDiff,Nat.reduceAdd,true_and,and_true]
    decide
   ·rintro ⟨k,f,n,d⟩ ⟨hf,hdrop,hk⟩
    simp only at hf hdrop hk
    refine ⟨L0,_,by simp only [aw,and_self],fun _ _ q=> q,?_⟩
    simp only [go_sem,t8 hr,true_imp_iff,decide_eq_true_eq,HQ,Bool.false_eq_true,false_imp_iff,Nat.reduceBEq,Nat.reduceLeDiff,Nat.reduceAdd,Nat.reduceSub,Nat.reduceMul,true_and,and_true,implies_true]
    have hget : ∀ (l : List (List SV)) (j : Nat),l=(ju d0 n0 d0).drop k→(ju d0 n0 d0)[k + j]? =l[j]? :=fun l j e=> by rw [e,List.getElem?_drop]
    have hlen : (ju f n d).length=(ju d0 n0 d0).length - k:=by rw [←hdrop,List.length_drop]
    refine ⟨fun hn=> ?_,fun hn=> ?_⟩
    ·have hn' : n≠0:=by simpa using hn
     obtain ⟨T,e1,e2,e3⟩ :=HP hn' hf
     have hT : (ju d0 n0 d0).drop (k + 1)=T:=by rw [←List.drop_drop,hdrop,e1];rfl
     have h0':=hget _ 0 hdrop.symm
     rw [e1] at h0'
     have hk1 : k + 1≤(ju d0 n0 d0).length:=by
      have:=(List.getElem?_eq_some_iff.1 h0').1;omega
     refine ⟨h0',⟨fun _=> ⟨by split <;> omega,rfl,fun h2=> ?_,fun h2=> ?_⟩,fun h2=> ?_⟩,?_⟩
     ·have h3 : n % max d 1=0:=by
       have:=eq_of_beq h2
       generalize n % max d 1=q at this ⊢
       omega
      have hT2:=e2 h3
      have hl2 : (ju d0 n0 d0).length=k + 2:=by
       have:=congrArg List.length hT
       rw [hT2,List.length_drop] at this
       simp at this;omega
      refine ⟨?_,⟨(k + 1 + 2,true),[0,1,2],.inr (by rw [hl2]),rfl,⟨rfl,rfl,rfl⟩,by simp [ve,wY,an,cd,l9,oQ]⟩,⟨(0,true),[0,1,2],.inl rfl,rfl,⟨rfl,rfl,rfl⟩,by simp [ve,wY,an,cd,l9,oQ]⟩⟩
      have : (ju d0 n0 d0)[k + 1]? =T[0]? :=by rw [←hT,List.getElem?_drop]
      rw [this,hT2];rfl
     ·have h3 : n % max d 1≠0:=fun e=> by rw [e] at h2;simp at h2
      obtain ⟨f',m1,m2,m3⟩ :=e3 h3
      exact ⟨(k + 1,f',d,n % max d 1),[0,1,2],⟨m2,by rw [hT,m1],hk1⟩,m3,⟨rfl,rfl,rfl⟩,by simp [ve,wY,an,cd,l9,oQ,nth,gj,ren]⟩
     ·exact absurd hn (by rw [h2];simp)
     ·exact ⟨(0,false),[0,1,2],.inl rfl,rfl,⟨rfl,rfl,rfl⟩,by simp [ve,wY,an,cd,l9,oQ]⟩
    ·have hn' : n=0:=by simpa using hn
     subst hn'
     rw [HO] at hlen
     simp at hlen
     exact ⟨by simpa using hn,(k + 1,false),[0,1,2],.inr (by show k + 1=_;omega),rfl,⟨rfl,rfl,rfl⟩,by simp [ve,wY,an,cd,l9,oQ]⟩
  ·unfold ag Tryz.f190
   simp only [go_sem,true_imp_iff,decide_eq_true_eq,Nat.reduceBEq,Nat.reduceLeDiff,Nat.reduceAdd,Nat.reduceSub,Nat.reduceMul,true_and,and_true,implies_true]
   rintro ⟨j,b⟩ hj
   cases b
   ·simp only [go_sem]
    exact ⟨j,_,_,[0,1,2],hj,rfl,Nat.le_refl 3,by simp only [go_sem,Nat.reduceBEq,Nat.reduceLeDiff,Nat.reduceAdd,true_and,and_true];decide⟩
   ·simp only [go_sem]
    exact ⟨j,_,_,[0,1,2],hj,rfl,Nat.le_refl 3,by simp only [go_sem,Nat.reduceBEq,Nat.reduceLeDiff,Nat.reduceAdd,true_and,and_true];decide⟩
 ·cases h
end Go.Sx
end
section
namespace Go.Sx
open Go.Proofs
set_option maxRecDepth 100000
set_option linter.unusedSimpArgs false
def MZ (n d : Nat) : Nat:=if d=0 then n else (vn d n d).getLastD d
def C83 : List SV→Option Con:=pU fun n=> pU fun d=> pE (.det (0≤n∧0≤d) (SV.u (MZ n.toNat d.toNat)))
theorem PB : FnOk Tryz.prog 175 C83:=by
 have hG : ConsOk Tryz.prog (mkG [] [(184,C90)]) :=aN (by simp) (by
  intro x hx
  simp only [List.mem_cons,List.not_mem_nil,or_false] at hx
  rcases hx with rfl
  exact Pz)
 refine A_ false mixed aD hG (fn:=Tryz.f175) (c:=ag Tryz.f175) (by kernel_rfl) (by kernel_rfl) (by kernel_rfl) (by kernel_rfl) fun l con h hp=> ?_
 unfold C83 at h
 obtain ⟨n',l0,rfl,h0⟩ :=xr h
 obtain ⟨d',l1,rfl,h1⟩ :=xr h0
 obtain ⟨rfl,rfl⟩ :=iJ h1
 clear h h0 h1
 obtain ⟨hn,hd⟩ :=hp
 obtain ⟨n,rfl⟩ :=Int.eq_ofNat_of_zero_le hn
 obtain ⟨d,rfl⟩ :=Int.eq_ofNat_of_zero_le hd
 refine ⟨Nat.le_of_ble_eq_true rfl,fun id st=> bif Nat.beq id 0 then some { α:=Unit,pre:=st.h=[.cells [SV.u d],.cells [SV.u n],.cells [SV.u d]]∧lk 12 st.t= .fn 190 [] [.ptr 1 0,.ptr 2 0]∧lk 4 st.t= .ptr 0 0,post:=fun _=> True,ex:=fun _=> .normal,out:=fun _=> ⟨[(4,.ptr 0 0)],[.cells [SV.u ((vn d n d).getLastD d)],.dead,.dead]⟩ : LCon} else none,?_,?_⟩
 ·unfold ag Tryz.f175
  simp only [aw,true_and,and_true]
  refine y8 mixed aD hG (by decide) (by decide) (by kernel_rfl) (by kernel_rfl) fun st lc hC hp=> ?_
  simp only [go_sem,Nat.reduceBEq,Option.some.injEq] at hC
  subst hC
  obtain ⟨t,h⟩ :=st
  dsimp only at hp
  obtain ⟨rfl,h12,h4⟩ :=hp
  refine ⟨190,[.ptr 1 0,.ptr 2 0],ju d n d,Nat,[(4,.ptr 0 0)],fun v=> [.cells [SV.u v],.dead,.dead],fun k v=> v=((vn d n d).take k).getLastD d,fun _ _=> False,d,[0,1,2],h12,rfl,Nat.le_refl _,?_,PA n d,?_,?_,fun _ h=> h.elim,fun _ _ h=> h.elim⟩
  ·show Sub [0,1,2] 3 ⟨t,[.cells [SV.u d],.dead,.dead]⟩ ⟨[(4,.ptr 0 0)],[.cells [SV.u d],.dead,.dead]⟩
   simp only [go_sem,h4,Nat.reduceBEq,Nat.reduceLeDiff,Nat.reduceAdd,true_and,and_true]
   decide
  ·intro k y args hk hI
   unfold ju at hk
   rw [List.getElem?_map,Option.map_eq_some_iff] at hk
   obtain ⟨x,hx,rfl⟩ :=hk
   refine ⟨rfl,L0,_,fun l=> by simp only [aw],fun l=> by simp only [aw],fun _ _ q=> q,?_⟩
   show exec ts _ L0 _ ⟨[(13,SV.u x),(4,SV.ptr 0 0)],[.cells [SV.u y],.dead,.dead]⟩ _
   simp only [go_sem,true_imp_iff,Nat.reduceBEq,Nat.reduceLeDiff,Nat.reduceAdd,true_and,and_true]
   refine ⟨x,[0,1,2],?_,Nat.le_refl 3,?_⟩
   ·have hlt:=(List.getElem?_eq_some_iff.1 hx).1
    have hx2:=(List.getElem?_eq_some_iff.1 hx).2
    show x=((vn d n d).take (k + 1)).getLastD d
    rw [List.take_succ_eq_append_getElem hlt,hx2]
    simp [List.getLastD_concat]
   ·simp only [go_sem,Nat.reduceBEq,Nat.reduceLeDiff,Nat.reduceAdd,true_and,and_true]
    decide
  ·intro y hI
   refine ⟨(),[0,1,2],trivial,rfl,Nat.le_refl _,?_⟩
   have hy : y=(vn d n d).getLastD d:=by rw [hI,List.take_of_length_le (by simp [ju])]
   subst hy
   show Sub [0,1,2] 3 ⟨[(4,.ptr 0 0)],[.cells [SV.u _],.dead,.dead]⟩ ⟨[(4,.ptr 0 0)],[.cells [SV.u _],.dead,.dead]⟩
   simp only [go_sem,Nat.reduceBEq,Nat.reduceLeDiff,Nat.reduceAdd,true_and,and_true]
   decide
 ·unfold ag Tryz.f175
  simp only [go_sem,C90,true_imp_iff,decide_eq_true_eq,Bool.false_eq_true,false_imp_iff,Nat.reduceBEq,Nat.reduceLeDiff,Nat.reduceAdd,Nat.reduceSub,Nat.reduceMul,true_and,and_true,implies_true]
  refine ⟨fun h=> ?_,fun h _ _=> ?_⟩
  ·have h' : d=0:=by simpa using h
   simp [MZ,h']
  ·have h' : d≠0:=by simpa using h
   simp [MZ,h']
attribute [go_sem] C83
end Go.Sx
end
section
namespace Go.Sx
open Go.RowKit
inductive NilS : St→St→Prop where
 | refl (st : St) : NilS st st
 | cell {st : St} {t : List (Nat×SV)} {h : List Ob} {i j : Nat} {l : List SV} (o : Ob) : NilS st ⟨t,h⟩→an h i= .cells l→l[j]? =some (.v (.slice none 0 0))→((∃ k,o= .row k [])∨∃ k,o= .grid k [])→NilS st ⟨t,bM h i (.cells (l.set j (.os h.length))) ++ [o]⟩
 | slot {st : St} {t : List (Nat×SV)} {h : List Ob} {i : Nat} (o : Ob) : NilS st ⟨t,h⟩→lk i t= .v (.slice none 0 0)→((∃ k,o= .row k [])∨∃ k,o= .grid k [])→NilS st ⟨(i,.os h.length) :: t,h ++ [o]⟩
section
variable {P : Program} {F : Nat→Prop} {w0 : Bs} {N : Nat}
theorem EF (h : List Ob) (o : Ob) : an (h ++ [o]) h.length=o:=by rw [j5,if_neg (by omega)];simp [an]
theorem DA {own : Own} {h : List Ob} {a : Act} {w : World} {t : List (Nat×SV)} (hr : StRel F w0 N own ⟨t,h⟩ a w) (o : Ob) (ho : (∃ k,o= .row k [])∨∃ k,o= .grid k []) :
  ∃ own',StRel F w0 N own' ⟨t,h ++ [o]⟩ a w∧(∀ id hd,own id=some hd→own' id=some hd)∧own' h.length=some { v:= .slice none 0 0} :=by
 let own' : Own:=fun id=> if id=h.length then some { v:= .slice none 0 0} else own id
 have hsub : ∀ id hd,own id=some hd→own' id=some hd:=fun id hd e=> by
  have : id≠h.length:=by have:=hr.hp.dom id hd e;simp only at this;omega
  simp only [own',if_neg this];exact e
 have hinv : ∀ id hd b,own' id=some hd→b∈hd.bs→own id=some hd:=fun id hd b e hb=> by
  by_cases hi : id=h.length
  ·simp only [own',if_pos hi,Option.some.injEq] at e;subst e;cases hb
  ·simpa only [own',if_neg hi] using e
 have hc : Carries F own w F own' w:=⟨fun id hd e=> ⟨hd,hsub id hd e,.refl _⟩,fun b _ hn=> ⟨by
  rintro (hf | ⟨id,hd,e,hb⟩)
  ·exact hn (.inl hf)
  ·exact hn (.inr ⟨id,hd,hinv id hd b e hb,hb⟩),rfl⟩⟩
 refine ⟨own',⟨hr.size,hr.defers,⟨fun id hd e=> ?_,hr.hp.foreign,fun id hd b e hb=> hr.hp.apart id hd b (hinv id hd b e hb) hb,fun i j hi hj b e1 e2 b1 b2=> hr.hp.inj i j hi hj b (hinv i hi b e1 b1) (hinv j hj b e2 b2) b1 b2,fun id hd b e hb=> hr.hp.lt id hd b (hinv id hd b e hb) hb,fun id hd=> ?_⟩,
  ⟨fun id hd e=> ?_,fun id hd b e hb=> hr.fr.base id hd b (hinv id hd b e hb) hb,hr.fr.os,hr.fr.tape,hr.fr.output,hr.fr.size,hr.fr.block⟩,fun t=> (hr.slots t).carry hc⟩,hsub,by simp [own']⟩
 ·simp only [List.length_append,List.length_cons,List.length_nil]
  by_cases hi : id=h.length
  ·omega
  ·simp only [own',if_neg hi] at e;have:=hr.hp.dom id hd e;simp only at this;omega
 ·simp only at hd ⊢
  by_cases hi : id < h.length
  ·rw [j5,if_pos hi] at hd ⊢
   obtain ⟨hd',e1,e2⟩ :=hr.hp.obs id hd
   exact ⟨hd',hsub id hd' e1,e2.carry hc (Nat.le_refl _) fun _ _=> rfl⟩
  ·by_cases hi2 : id=h.length
   ·subst hi2
    rw [EF]
    refine ⟨_,by simp [own'];rfl,?_⟩
    rcases ho with ⟨k,rfl⟩ | ⟨k,rfl⟩
    ·exact .inl ⟨none,rfl,rfl,rfl⟩
    ·exact .inl ⟨rfl,rfl,rfl,rfl⟩
   ·rw [lu (by simp;omega)] at hd;cases hd
 ·obtain ⟨hd',e1,e2⟩ :=hr.fr.ids id hd e
  exact ⟨hd',hsub id hd' e1,e2⟩
theorem NilS.rel {st st' : St} (hn : NilS st st') {own : Own} {a : Act} {w : World} (hr : StRel F w0 N own st a w) : ∃ own',StRel F w0 N own' st' a w:=by
 induction hn with
 | refl=> exact ⟨own,hr⟩
 | @slot t h i o _ hl ho ih=>
  obtain ⟨own1,h1⟩ :=ih
  obtain ⟨own2,h2,h3,h4⟩ :=DA h1 o ho
  refine ⟨own2,h2.size,h2.defers,h2.hp,h2.fr,fun u=> ?_⟩
  rw [jt]
  split
  ·rename_i e
   subst e
   have:=h1.slots i
   rw [hl] at this
   rw [bE this]
   exact .os (hd:= { v:= .slice none 0 0}) h4 rfl
  ·exact h2.slots u
 | @cell t h i j l o _ hc hl ho ih=>
  obtain ⟨own1,h1⟩ :=ih
  obtain ⟨own2,h2,h3,h4⟩ :=DA h1 o ho
  have hlt : i < h.length:=by
   rcases Nat.lt_or_ge i h.length with h' | h'
   ·exact h'
   ·rw [lu h'] at hc;cases hc
  have hlen : (bM h i (.cells (l.set j (.os h.length)))).length=h.length:=by rw [bR,if_pos hlt]
  refine ⟨own2,h2.size,h2.defers,⟨fun id hd e=> ?_,h2.hp.foreign,h2.hp.apart,h2.hp.inj,h2.hp.lt,fun id hd=> ?_⟩,h2.fr,h2.slots⟩
  ·have:=h2.hp.dom id hd e;simp only [List.length_append] at this ⊢;rw [hlen];exact this
  ·simp only at hd ⊢
   have hob:=h2.hp.obs id
   simp only at hob
   by_cases hi : id < h.length
   ·rw [j5,if_pos (by rw [hlen];exact hi)] at hd ⊢
    rw [j5,if_pos hi] at hob
    rw [cP] at hd ⊢
    by_cases hii : i=id
    ·subst hii
     rw [if_pos rfl] at hd ⊢
     rw [hc] at hob
     obtain ⟨hd',e1,b,cs,ty,m1,m2,m3,m4,m5⟩ :=hob rfl
     refine ⟨hd',e1,b,cs,ty,m1,m2,m3,by simpa using m4,fun j' s hs=> ?_⟩
     rw [List.getElem?_set] at hs
     by_cases hj : j=j'
     ·subst hj
      rw [if_pos rfl] at hs
      split at hs
      ·cases hs
       have:=m5 j _ hl
       rw [bE this]
       exact .os (hd:= { v:= .slice none 0 0}) h4 rfl
      ·cases hs
     ·rw [if_neg hj] at hs
      exact m5 j' s hs
    ·rw [if_neg hii] at hd ⊢
     exact hob hd
   ·rw [j5,if_neg (by rw [hlen];exact hi),hlen] at hd ⊢
    rw [j5,if_neg hi] at hob
    exact hob hd
end
section
variable {P : Program} {F : Nat→Prop} {w0 : Bs} {ro : Option Nat} {nd : Nat} {ts : Tis} {G : Cons} {L : mB} {N : Nat}
theorem lF {ts : Tis} {G : Cons} {ro : Option Nat} {N : Nat} (hm : P.follows .mixedOrders=true) (hts : ts.ok P) (hG : ConsOk P G) {id : Nat} {c : Code} (hc : bQ N c=true) {C : St→Option LCon}
  (h : ∀ st lc,C st=some lc→lc.pre→∃ (σ : Type) (D : σ→St) (I : σ→Prop) (m : σ→Nat) (x0 : σ) (stN : St) (js : List Nat),I x0∧NilS st stN∧st.h.length≤(D x0).h.length∧Sub js st.h.length stN (D x0)∧
   ∀ x,I x→∃ L Qx,aw P ro N L c∧(∀ e st',Qx e st'→mb D I m st.h.length x id (fun e st'=> ∃ r js,lc.post r∧lc.ex r=e∧st.h.length≤(lc.out r).h.length∧Sub js st.h.length st' (lc.out r)) e st')∧exec ts G L c (D x) Qx) : fO P ro N id (.loop c) C:=by
 intro nd F w0 st lc hC hpre own a w hr
 obtain ⟨σ,D,I,m,x0,stN,js,h1,hN,h2,h3,h4⟩ :=h st lc hC hpre
 obtain ⟨ownN,hrN⟩ :=hN.rel hr
 refine wpIn_mono (v7 hm hts hG hc D I m st.h.length hr.base_lt _ h4 x0 h1 _ a w (hrN.sub h3 hr.base_lt h2)) ?_
 intro e a' w' hq
 have key : ∀ ex F1 own' st',StRel F1 w0 N own' st' a' w'→(∃ r js,lc.post r∧lc.ex r=ex∧st.h.length≤(lc.out r).h.length∧Sub js st.h.length st' (lc.out r))→∃ own2 st2,StRel F1 w0 N own2 st2 a' w'∧∃ r,lc.post r∧ex=lc.ex r∧st2=lc.out r:=by
  rintro ex F1 own' st' hst ⟨r,js,q1,q2,q3,q4⟩
  exact ⟨_,_,hst.sub q4 hr.base_lt q3,r,q1,q2.symm,rfl⟩
 cases e with
 | normal=> obtain ⟨F1,own',st',h0,k1,k2⟩ :=hq;obtain ⟨own2,st2,q1,q2⟩ :=key _ F1 own' st' k1 k2;exact ⟨F1,own2,st2,h0,q1,q2⟩
 | exit j=> obtain ⟨F1,own',st',h0,k1,k2⟩ :=hq;obtain ⟨own2,st2,q1,q2⟩ :=key _ F1 own' st' k1 k2;exact ⟨F1,own2,st2,h0,q1,q2⟩
 | ret=> obtain ⟨F1,own',st',h0,k1,k2⟩ :=hq;obtain ⟨own2,st2,q1,q2⟩ :=key _ F1 own' st' k1 k2;exact ⟨F1,own2,st2,h0,q1,q2⟩
 | panic ch=>
  obtain ⟨x,F1,own',st',h0,k1,k2,k3⟩ :=hq
  obtain ⟨own2,st2,q1,q2⟩ :=key _ F1 own' st' k1 k2
  exact ⟨x,F1,own2,st2,h0,q1,q2,k3⟩
 | _=> exact hq.elim
end
section
variable {P : Program} {ρ σ : Type}
def fl (st2 : St) (n0 : Nat) (st : St) : Prop:= ∃ js,n0≤st2.h.length∧Sub js n0 st st2
theorem xz {st2 st : St} {n0 : Nat} (js : List Nat) (h1 : n0≤st2.h.length) (h2 : Sub js n0 st st2) : fl st2 n0 st:=⟨js,h1,h2⟩
def lG (D : Nat→σ→St) (n0 k : Nat) (st : St) : ρ⊕σ→Prop
 | .inl _=> False
 | .inr s'=> fl (D (k + 1) s') n0 st
def gz (exE : ρ→Ex) (outE : ρ→St) (n0 : Nat) (e : Ex) (st : St) : ρ⊕σ→Prop
 | .inl x=> exE x=e∧fl (outE x) n0 st
 | .inr _=> False
def cE (step : Nat→σ→ρ⊕σ) (n : Nat) (exE : ρ→Ex) (outE : ρ→St) (outN : σ→St) (D : Nat→σ→St) (n0 id k : Nat) (s : σ) : Ex→St→Prop
 | .normal,st=> k < n∧lG D n0 k st (step k s)
 | .exit j,st=> bif Nat.beq j id then (n≤k→fl (outN s) n0 st)∧(k < n→gz exE outE n0 .normal st (step k s)) else k < n∧gz exE outE n0 (.exit j) st (step k s)
 | .ret,st=> k < n∧gz exE outE n0 .ret st (step k s)
 | .pan x,st=> k < n∧gz exE outE n0 (.pan x) st (step k s)
variable {step : Nat→σ→ρ⊕σ} {n n0 id k j : Nat} {exE : ρ→Ex} {outE : ρ→St} {outN : σ→St} {D : Nat→σ→St} {s s' : σ} {st : St} {x : Value} {e : Ex} {y : ρ}
@[go_sem] theorem RR : lG (ρ:=ρ) D n0 k st (.inr s')=fl (D (k + 1) s') n0 st:=(rfl)
@[go_sem] theorem Tq : gz (σ:=σ) exE outE n0 e st (.inl y)=(exE y=e∧fl (outE y) n0 st) :=(rfl)
@[go_sem] theorem RS : cE step n exE outE outN D n0 id k s .normal st=(k < n∧lG D n0 k st (step k s)) :=(rfl)
@[go_sem] theorem U1 : cE step n exE outE outN D n0 id k s (.exit j) st=bif Nat.beq j id then (n≤k→fl (outN s) n0 st)∧(k < n→gz exE outE n0 .normal st (step k s)) else k < n∧gz exE outE n0 (.exit j) st (step k s) :=(rfl)
@[go_sem] theorem WZ : cE step n exE outE outN D n0 id k s .ret st=(k < n∧gz exE outE n0 .ret st (step k s)) :=(rfl)
@[go_sem] theorem W0 : cE step n exE outE outN D n0 id k s (.pan x) st=(k < n∧gz exE outE n0 (.pan x) st (step k s)) :=(rfl)
@[congr] theorem N8 {r r' : ρ⊕σ} (h : r=r') : lG D n0 k st r=lG D n0 k st r':=by rw [h]
@[congr] theorem Tr {st st' : St} {e e' : Ex} (h : st=st') (he : e=e') : cE step n exE outE outN D n0 id k s e st=cE step n exE outE outN D n0 id k s e' st':=by rw [h,he]
theorem EG {ts : Tis} {G : Cons} {ro : Option Nat} {N : Nat} (hm : P.follows .mixedOrders=true) (hts : ts.ok P) (hG : ConsOk P G) {id : Nat} {c : Code} (hc : bQ N c=true) {C : St→Option LCon}
  (h : ∀ st lc,C st=some lc→lc.pre→∃ (ρ σ : Type) (pre : Prop) (step : Nat→σ→ρ⊕σ) (p : Nat→σ→Prop) (n : Nat) (s0 : σ) (exE : ρ→Ex) (outE : ρ→St) (outN : σ→St) (D : Nat→σ→St) (stN : St) (js : List Nat),
   lc=LC pre (ak step n 0 s0) exE outE outN∧okI step p n 0 s0∧NilS st stN∧st.h.length≤(D 0 s0).h.length∧Sub js st.h.length stN (D 0 s0)∧
   ∀ k s,k≤n→(k < n→p k s)→∃ L,aw P ro N L c∧exec ts G L c (D k s) (cE step n exE outE outN D st.h.length id k s)) : fO P ro N id (.loop c) C:=by
 refine lF hm hts hG hc fun st lc hC hp=> ?_
 obtain ⟨ρ,σ,pre,step,p,n,s0,exE,outE,outN,D,stN,js,rfl,h1,hN,h2,h3,h4⟩ :=h st lc hC hp
 refine ⟨Nat×σ,fun x=> D x.1 x.2,fun x=> x.1≤n∧okI step p (n - x.1) x.1 x.2∧ak step (n - x.1) x.1 x.2=ak step n 0 s0,fun x=> n - x.1,(0,s0),stN,js,⟨Nat.zero_le _,by simpa using h1,by simp⟩,hN,h2,h3,?_⟩
 rintro ⟨k,s⟩ ⟨hk,hJ,hrun⟩
 simp only at hk hJ hrun
 obtain ⟨L,hl,hex⟩ :=h4 k s hk (fun hlt=> by
  rw [show n - k=(n - k - 1) + 1 by omega] at hJ
  exact hJ.1)
 refine ⟨L,_,hl,?_,hex⟩
 have hfin : ∀ e st',k < n→gz exE outE st.h.length e st' (step k s)→∃ r js,(LC pre (ak step n 0 s0) exE outE outN).post r∧(LC pre (ak step n 0 s0) exE outE outN).ex r=e∧st.h.length≤((LC pre (ak step n 0 s0) exE outE outN).out r).h.length∧Sub js st.h.length st' ((LC pre (ak step n 0 s0) exE outE outN).out r) :=by
  intro e st' hlt q
  cases hs : step k s with
  | inr s'=> rw [hs] at q;exact q.elim
  | inl x=>
   rw [hs] at q
   obtain ⟨q2,js,q3,q4⟩ :=q
   rw [show n - k=(n - k - 1) + 1 by omega] at hrun
   simp only [ak,hs] at hrun
   exact ⟨.inl x,js,hrun,q2,q3,q4⟩
 intro e st' hq
 cases e with
 | normal=>
  obtain ⟨q1,q2⟩ :=hq
  cases hs : step k s with
  | inl x=> rw [hs] at q2;exact q2.elim
  | inr s'=>
   rw [hs] at q2
   obtain ⟨js,q3,q4⟩ :=q2
   rw [show n - k=(n - (k + 1)) + 1 by omega] at hrun hJ
   simp only [ak,hs] at hrun
   exact ⟨(k + 1,s'),js,⟨q1,hJ.2 s' hs,hrun⟩,by simp only;omega,q3,q4⟩
 | exit j=>
  have hq' : (bif Nat.beq j id then (n≤k→fl (outN s) st.h.length st')∧(k < n→gz exE outE st.h.length .normal st' (step k s)) else k < n∧gz exE outE st.h.length (.exit j) st' (step k s)) :=hq
  show bif Nat.beq j id then _ else _
  cases hb : Nat.beq j id with
  | true=>
   rw [hb] at hq'
   simp only [cond_true] at hq' ⊢
   by_cases hlt : k < n
   ·exact hfin _ _ hlt (hq'.2 hlt)
   ·obtain ⟨js,q3,q4⟩ :=hq'.1 (by omega)
    have hkn : k=n:=by omega
    subst hkn
    simp only [Nat.sub_self,ak] at hrun
    exact ⟨.inr s,js,hrun,rfl,q3,q4⟩
  | false=> rw [hb] at hq';exact hfin _ _ hq'.1 hq'.2
 | ret=> exact hfin _ _ hq.1 hq.2
 | pan x=> exact hfin _ _ hq.1 hq.2
end
def rt (p : Prop) (S : SV) (H : List Ob) : HCon:= { α:=Unit,pre:=p,post:=fun _=> True,res:=fun _=> .ret S H}
def Bh (n0 : Nat) (S : SV) (H : List Ob) (h : List Ob) : Option SV→Prop
 | some s=> fl ⟨[(0,S)],H⟩ n0 ⟨[(0,s)],h⟩
 | none=> False
def HR (n0 : Nat) (rs : List ResultVar) (ts : Tis) (S : SV) (H : List Ob) : Ex→St→Prop
 | .exit _,_=> False
 | .normal,st=> Bh n0 S H st.h (jK (iF ts st rs))
 | .ret,st=> Bh n0 S H st.h (jK (iF ts st rs))
 | .pan _,_=> False
section
variable {P : Program} {ts : Tis} {G : Cons} {n0 : Nat} {S s : SV} {H h : List Ob} {rs : List ResultVar} {st : St} {x : Value} {j : Nat}
@[go_sem] theorem RT : Bh n0 S H h (some s)=fl ⟨[(0,S)],H⟩ n0 ⟨[(0,s)],h⟩ :=(rfl)
@[go_sem] theorem M0 : HR n0 rs ts S H .normal st=Bh n0 S H st.h (jK (iF ts st rs)) :=(rfl)
@[go_sem] theorem RU : HR n0 rs ts S H .ret st=Bh n0 S H st.h (jK (iF ts st rs)) :=(rfl)
@[go_sem high] theorem PC {p : Prop} {ids : List Nat} {d : Option Nat} {K : St→Prop} {Z : Value→St→Prop} : mU ids d st K Z (some (rt p S H))=(p∧Av ids d st K Z (.ret S H)) :=by
 show (p∧∀ r : Unit,True→Av ids d st K Z (.ret S H))=_
 simp
@[go_sem high] theorem N9 {p : Prop} {ids : List Nat} {ops : List Oper} {g : Nat×Bool} {d : Nat} {t : List (Nat×SV)} {h' : List Ob} {K : St→Prop} {Z : Value→St→Prop} : o9 ids ops g (some d) ⟨t,h'⟩ K Z (some (rt p S H))=((cO ops t ops.length g→p∧yo ids g (some d) ⟨t,h'⟩ K Z (.ret S H))∧(fL ops t ops.length g→K ⟨(d,.gd g.1 g.2 .any) :: t,h'⟩)) :=by
 show ((cO ops t ops.length g→p∧∀ r : Unit,True→yo ids g (some d) ⟨t,h'⟩ K Z (.ret S H))∧_)=_
 simp only [true_imp_iff,forall_const]
 rfl
@[go_sem] theorem Ts {nx : Nat} : eX G h nx .bad=none:=(rfl)
def hCR (t : Tag) (k : List t.T→Option HCon) : List Ob→Option HCon
 | [.cells [.os 1],.row k' l] => if h : k'=t then k (h▸l) else none
 | _=> none
@[go_sem] theorem W2 {t : Tag} {k : List t.T→Option HCon} {l : List t.T} : hCR t k [.cells [.os 1],.row t l]=k l:=by simp [hCR]
theorem oy {t : Tag} {k : List t.T→Option HCon} {h : List Ob} {c : HCon} (hh : hCR t k h=some c) : ∃ l,h=[.cells [.os 1],.row t l]∧k l=some c:=by
 unfold hCR at hh;split at hh
 ·split at hh
  ·rename_i e;subst e;exact ⟨_,rfl,hh⟩
  ·cases hh
 ·cases hh
open Classical in
noncomputable def pQ {α : Type 1} (X : SV) (k : List SV→Option α) : List SV→Option α
 | s :: r=> if s=X then k r else none
 | [] => none
@[go_sem] theorem pQ_mk {α : Type 1} {X : SV} {k : List SV→Option α} {r : List SV} : pQ X k (X :: r)=k r:=by simp [pQ]
theorem ru {α : Type 1} {X : SV} {k : List SV→Option α} {l : List SV} {c : α} (h : pQ X k l=some c) : ∃ r,l=X :: r∧k r=some c:=by
 unfold pQ at h;split at h
 ·split at h
  ·rename_i e;subst e;exact ⟨_,rfl,h⟩
  ·cases h
 ·cases h
def pXR {α : Type 1} (t : Tag) (k : List t.T→List SV→Option α) : List SV→Option α
 | .ep [.rs k' l] 0 :: r=> wa t k r k' l
 | _=> none
@[go_sem] theorem W3 {α : Type 1} {t : Tag} {k : List t.T→List SV→Option α} {l : List t.T} {r : List SV} : pXR t k (.ep [.rs t l] 0 :: r)=k l r:=by simp [pXR,wa]
theorem DB {α : Type 1} {t : Tag} {k : List t.T→List SV→Option α} {l : List SV} {c : α} (h : pXR t k l=some c) : ∃ x r,l= .ep [.rs t x] 0 :: r∧k x r=some c:=by
 unfold pXR at h;split at h
 ·rename_i k' l' r
  unfold wa at h
  split at h
  ·rename_i e;subst e;exact ⟨_,_,rfl,h⟩
  ·cases h
 ·cases h
theorem lH (hm : P.follows .mixedOrders=true) (hts : ts.ok P) (hG : ConsOk P G) {f : FuncId} {fn : Func} {c : Code} (hf : P.funcs[f]? =some fn) (hb : fn.body=some c) (hname : (fn.name== "runtime.NumGoroutine")=false)
  (hc : bQ fn.ntmps c=true) {C : List SV→List Ob→Option HCon}
  (h : ∀ l o con,C l o=some con→∃ p S H,con=rt p S H∧(p→l.length≤fn.ntmps∧∃ L,aw P none fn.ntmps L c∧exec ts G L c ⟨g0 0 l,o⟩ (HR o.length fn.results.toList ts S H))) : FnOkO P f C:=by
 refine tY hm hts hG hf hb hname hc fun l o con hC hp=> ?_
 obtain ⟨p,S,H,rfl,h2⟩ :=h l o con hC
 obtain ⟨h3,L,h4,h5⟩ :=h2 hp
 refine ⟨h3,L,_,h4,fun e st hq=> ?_,h5⟩
 cases e with
 | normal=>
  change Bh _ _ _ _ _ at hq
  show p5 _ _ _ _
  cases hs : jK (iF ts st fn.results.toList) with
  | none=> rw [hs] at hq;exact hq.elim
  | some s=> rw [hs] at hq;obtain ⟨js,q1,q2⟩ :=hq;exact ⟨(),S,H,js,trivial,rfl,q1,q2⟩
 | ret=>
  change Bh _ _ _ _ _ at hq
  show p5 _ _ _ _
  cases hs : jK (iF ts st fn.results.toList) with
  | none=> rw [hs] at hq;exact hq.elim
  | some s=> rw [hs] at hq;obtain ⟨js,q1,q2⟩ :=hq;exact ⟨(),S,H,js,trivial,rfl,q1,q2⟩
 | exit j=> exact hq.elim
 | pan x=> exact hq.elim
end
end Go.Sx
end
section
namespace Go.Sx
attribute [go_sem] true_imp_iff false_imp_iff Bool.false_eq_true Int.toNat_natCast Int.toNat_zero true_and and_true and_self implies_true forall_const
theorem cl {p : Prop} (h : p:=by (first | done | (repeat' (first | with_reducible refine And.intro ?_ ?_ | ((with_reducible show _≠_);first | assumption | omega | (simp_all [am,aC];done) | grind) | with_reducible intro _)) <;> (first | done | exact Empty.elim ‹Empty› | assumption | rfl | omega | (simp only [*,cond_true,cond_false,Bool.not_true,Bool.not_false,go_sem,Nat.reduceBEq,Nat.reduceLeDiff,Nat.reduceAdd,Nat.reduceSub,Nat.reduceMul,Int.reduceLE,Int.reduceLT,Int.reduceToNat,Int.reduceNeg,reduceCtorEq];done) | (simp only [*,cond_true,cond_false,Bool.not_true,Bool.not_false,go_sem,Nat.reduceBEq,Nat.reduceLeDiff,Nat.reduceAdd,Nat.reduceSub,Nat.reduceMul,Int.reduceLE,Int.reduceLT,Int.reduceToNat,Int.reduceNeg,reduceCtorEq];(repeat' (first | with_reducible refine And.intro ?_ ?_ | ((with_reducible show _≠_);first | assumption | omega | (simp_all [am,aC];done) | grind) | with_reducible intro _)) <;> (first | done | assumption | rfl | omega | (simp_all [am,aC];done))) | (simp_all [okI,am,aC];done) | grind))) : p:=h
theorem cl2 {p : Prop} (h : p:=by (first | done | (repeat' (first | with_reducible refine And.intro ?_ ?_ | ((with_reducible show _≠_);first | assumption | omega | (simp_all [am,aC];done) | grind) | with_reducible intro _)) <;> (first | done | exact Empty.elim ‹Empty› | assumption | rfl | omega | (simp only [*,go_sem,Nat.reduceBEq,Nat.reduceLeDiff,Nat.reduceAdd,Nat.reduceSub,Nat.reduceMul,Int.reduceLE,Int.reduceLT,Int.reduceToNat,Int.reduceNeg,reduceCtorEq];done) | (simp_all [am,aC];done)))) : p:=h
theorem fk {st2 st : St} {n0 : Nat} (js : List Nat) (h1 : n0≤st2.h.length:=by (first | (show _≤_;decide) | (simp only [*,go_sem,Nat.reduceBEq,Nat.reduceLeDiff,Nat.reduceAdd,Nat.reduceSub,Nat.reduceMul,Int.reduceLE,Int.reduceLT,Int.reduceToNat,Int.reduceNeg,reduceCtorEq];done) | (simp only [*,go_sem,Nat.reduceBEq,Nat.reduceLeDiff,Nat.reduceAdd,Nat.reduceSub,Nat.reduceMul,Int.reduceLE,Int.reduceLT,Int.reduceToNat,Int.reduceNeg,reduceCtorEq];(repeat' (first | with_reducible refine And.intro ?_ ?_ | ((with_reducible show _≠_);first | assumption | omega | (simp_all [am,aC];done) | grind) | with_reducible intro _)) <;> (first | rfl | decide | assumption | omega | (simp_all [am,aC];done))))) (h2 : Sub js n0 st st2:=by (first | (show _≤_;decide) | (simp only [*,go_sem,Nat.reduceBEq,Nat.reduceLeDiff,Nat.reduceAdd,Nat.reduceSub,Nat.reduceMul,Int.reduceLE,Int.reduceLT,Int.reduceToNat,Int.reduceNeg,reduceCtorEq];done) | (simp only [*,go_sem,Nat.reduceBEq,Nat.reduceLeDiff,Nat.reduceAdd,Nat.reduceSub,Nat.reduceMul,Int.reduceLE,Int.reduceLT,Int.reduceToNat,Int.reduceNeg,reduceCtorEq];(repeat' (first | with_reducible refine And.intro ?_ ?_ | ((with_reducible show _≠_);first | assumption | omega | (simp_all [am,aC];done) | grind) | with_reducible intro _)) <;> (first | rfl | decide | assumption | omega | (simp_all [am,aC];done))))) : fl st2 n0 st:=xz js h1 h2
theorem fk2 {st2 st : St} {n0 : Nat} (js : List Nat) (h1 : n0≤st2.h.length:=by (first | (show _≤_;decide) | (simp only [go_sem,Nat.reduceBEq,Nat.reduceLeDiff,Nat.reduceAdd,Nat.reduceSub,Nat.reduceMul,Int.reduceLE,Int.reduceLT,Int.reduceToNat,Int.reduceNeg,reduceCtorEq];(repeat' (first | with_reducible refine And.intro ?_ ?_ | ((with_reducible show _≠_);first | assumption | omega | (simp_all [am,aC];done) | grind) | with_reducible intro _)) <;> (first | rfl | decide | assumption | omega | (simp_all [am,aC];done))))) (h2 : Sub js n0 st st2:=by (first | (show _≤_;decide) | (simp only [go_sem,Nat.reduceBEq,Nat.reduceLeDiff,Nat.reduceAdd,Nat.reduceSub,Nat.reduceMul,Int.reduceLE,Int.reduceLT,Int.reduceToNat,Int.reduceNeg,reduceCtorEq];(repeat' (first | with_reducible refine And.intro ?_ ?_ | ((with_reducible show _≠_);first | assumption | omega | (simp_all [am,aC];done) | grind) | with_reducible intro _)) <;> (first | rfl | decide | assumption | omega | (simp_all [am,aC];done))))) : fl st2 n0 st:=xz js h1 h2
theorem cg0 {α : Type _} {p : α→Prop} : ∀ x∈([] : List α),p x:=fun _ h=> by cases h
theorem cgc {α : Type _} {p : α→Prop} {a : α} {l : List α} (h : p a) (t : ∀ x∈l,p x) : ∀ x∈a :: l,p x:=fun x hx=> by
 rcases List.mem_cons.1 hx with rfl | hx
 ·exact h
 ·exact t x hx
attribute [go_sem] if_true
end Go.Sx
end
section
namespace Go.Sx
open Go.RowKit
section
variable {P : Program}
end
end Go.Sx
end
section
namespace Go.Sx
open Go.RowKit
def okL {ρ σ τ : Type} (step : τ→σ→ρ⊕σ) (p : τ→σ→Prop) : List τ→σ→Prop
 | [],_=> True
 | x :: l,s=> p x s∧∀ s',step x s= .inr s'→okL step p l s'
theorem xA {ρ σ τ : Type} {step : τ→σ→ρ⊕σ} {p : τ→σ→Prop} : ∀ (l : List τ) (s : σ),(∀ x∈l,∀ s,p x s)→okL step p l s
 | [],_,_=> trivial
 | x :: l,s,h=> ⟨h x (by simp) s,fun s' _=> xA l s' fun y hy=> h y (by simp [hy])⟩
section
variable {ρ σ τ : Type}
def rgN (T : List (Nat×SV)) (H : σ→List Ob) (n0 : Nat) (st : St) : ρ⊕σ→Prop
 | .inl _=> False
 | .inr s'=> fl ⟨T,H s'⟩ n0 ⟨T,st.h⟩
def rgX (exE : ρ→Ex) (T : List (Nat×SV)) (Hy : ρ→List Ob) (n0 : Nat) (e : Ex) (st : St) : ρ⊕σ→Prop
 | .inl y=> exE y=e∧fl ⟨T,Hy y⟩ n0 ⟨T,st.h⟩
 | .inr _=> False
def rgQ (step : τ→σ→ρ⊕σ) (exE : ρ→Ex) (T : List (Nat×SV)) (H : σ→List Ob) (Hy : ρ→List Ob) (n0 id : Nat) (x : τ) (s : σ) : Ex→St→Prop
 | .normal,st=> rgN T H n0 st (step x s)
 | .exit j,st=> rgX exE T Hy n0 (bif Nat.beq j id then .normal else .exit j) st (step x s)
 | .ret,st=> rgX exE T Hy n0 .ret st (step x s)
 | .pan _,_=> False
variable {step : τ→σ→ρ⊕σ} {exE : ρ→Ex} {T : List (Nat×SV)} {H : σ→List Ob} {Hy : ρ→List Ob} {n0 id j : Nat} {x : τ} {s s' : σ} {y : ρ} {st : St} {e : Ex}
@[go_sem] theorem U2 : rgN (ρ:=ρ) T H n0 st (.inr s')=fl ⟨T,H s'⟩ n0 ⟨T,st.h⟩ :=(rfl)
@[go_sem] theorem U3 : rgX (σ:=σ) exE T Hy n0 e st (.inl y)=(exE y=e∧fl ⟨T,Hy y⟩ n0 ⟨T,st.h⟩) :=(rfl)
@[go_sem] theorem PD : rgQ step exE T H Hy n0 id x s .normal st=rgN T H n0 st (step x s) :=(rfl)
@[go_sem] theorem U4 : rgQ step exE T H Hy n0 id x s .ret st=rgX exE T Hy n0 .ret st (step x s) :=(rfl)
@[go_sem] theorem Tt : rgQ step exE T H Hy n0 id x s (.exit j) st=rgX exE T Hy n0 (bif Nat.beq j id then .normal else .exit j) st (step x s) :=(rfl)
@[congr] theorem RV {r r' : ρ⊕σ} (h : r=r') : rgN T H n0 st r=rgN T H n0 st r':=by rw [h]
@[congr] theorem RW {r r' : ρ⊕σ} {e e' : Ex} (h : r=r') (he : e=e') : rgX exE T Hy n0 e st r=rgX exE T Hy n0 e' st r':=by rw [h,he]
end
section
variable {P : Program} {ts : Tis} {G : Cons} {N : Nat}
theorem lI (hm : P.follows .mixedOrders=true) (hts : ts.ok P) (hG : ConsOk P G) {id : Nat} {g : Operand} {ps : Array Tmp} {assign body : Code} {C : St→Option LCon}
  (hpn : ps.toList.Nodup) (hpN : ∀ p∈ps.toList,p < N) (hca : bQ N assign=true) (hcb : bQ N body=true)
  (h : ∀ st lc,C st=some lc→lc.pre→∃ (f : FuncId) (caps : List SV) (τ ρ σ : Type) (l : List τ) (mk : τ→List SV) (step : τ→σ→ρ⊕σ) (p : τ→σ→Prop) (pre : Prop) (s0 : σ) (exE : ρ→Ex) (outE : ρ→St) (outN : σ→St) (T : List (Nat×SV)) (H : σ→List Ob) (Hy : ρ→List Ob) (js : List Nat),
   raw st.t g= .fn f [] caps∧lc=LC pre (cw step l s0) exE outE outN∧okL step p l s0∧st.h.length≤(H s0).length∧Sub js st.h.length ⟨st.t,mD (ia st caps) st.h⟩ ⟨T,H s0⟩∧
   xx P f (fun y=> y :: caps.map (ren (EC (ia st caps)) 3)) (Be (ia st caps) st.h) (l.map mk)∧
   (∀ x s,p x s→(mk x).length=ps.size∧∃ L,(∀ l,aw P (some l) N L assign)∧(∀ l,aw P (some l) N L body)∧exec ts G L assign ⟨psT ps.toList (mk x) ++ T,H s⟩ (fun e st1=> e= .normal∧exec ts G L body st1 (rgQ step exE T H Hy st.h.length id x s)))∧
   (∀ s,fl (outN s) st.h.length ⟨T,H s⟩)∧∀ y,fl (outE y) st.h.length ⟨T,Hy y⟩) : fO P none N id (.rangeFunc g ps assign body) C:=by
 refine y8 hm hts hG hpn hpN hca hcb fun st lc hC hp=> ?_
 obtain ⟨f,caps,τ,ρ,σ,l,mk,step,p,pre,s0,exE,outE,outN,T,H,Hy,js,h1,rfl,h2,h3,h4,h5,h6,h7,h8⟩ :=h st lc hC hp
 refine ⟨f,caps,l.map mk,σ⊕ρ,T,fun z=> match z with | .inl s=> H s | .inr y=> Hy y,fun k z=> match z with | .inl s=> cw step (l.drop k) s=cw step l s0∧okL step p (l.drop k) s | .inr _=> False,
  fun e z=> match z with | .inl _=> False | .inr y=> cw step l s0= .inl y∧(match e with | .ret=> exE y= .ret | .exit j=> exE y=(bif Nat.beq j id then .normal else .exit j) | _=> False),.inl s0,js,h1,⟨rfl,h2⟩,h3,h4,h5,?_,?_,?_,?_⟩
 ·rintro k z args hk hI
  cases z with
  | inr y=> exact hI.elim
  | inl s=>
   obtain ⟨hrun,hok⟩ :=hI
   rw [List.getElem?_map,Option.map_eq_some_iff] at hk
   obtain ⟨x,hx,rfl⟩ :=hk
   have hlt:=(List.getElem?_eq_some_iff.1 hx).1
   have hd : l.drop k=x :: l.drop (k + 1) :=by
    rw [List.drop_eq_getElem_cons hlt];congr 1;exact (List.getElem?_eq_some_iff.1 hx).2
   rw [hd] at hrun hok
   obtain ⟨hl,L,hla,hlb,hex⟩ :=h6 x s hok.1
   refine ⟨hl,L,_,hla,hlb,?_,hex⟩
   intro e st' hq
   have fin : ∀ e',rgX exE T Hy st.h.length e' st' (step x s)→∃ y js,exE y=e'∧cw step l s0= .inl y∧st.h.length≤(Hy y).length∧Sub js st.h.length ⟨T,st'.h⟩ ⟨T,Hy y⟩ :=by
    intro e' q
    cases hs : step x s with
    | inr s'=> rw [hs] at q;exact q.elim
    | inl y=>
     rw [hs] at q
     obtain ⟨q1,js,q2,q3⟩ :=q
     simp only [cw,hs] at hrun
     exact ⟨y,js,q1,hrun.symm,q2,q3⟩
   cases e with
   | normal=>
    change rgN T H st.h.length st' (step x s) at hq
    cases hs : step x s with
    | inl y=> rw [hs] at hq;exact hq.elim
    | inr s'=>
     rw [hs] at hq
     obtain ⟨js,q1,q2⟩ :=hq
     simp only [cw,hs] at hrun
     exact ⟨.inl s',js,⟨hrun,hok.2 s' hs⟩,q1,q2⟩
   | exit j=>
    obtain ⟨y,js,q1,q2,q3,q4⟩ :=fin _ hq
    exact ⟨.inr y,js,⟨q2,q1⟩,q3,q4⟩
   | ret=>
    obtain ⟨y,js,q1,q2,q3,q4⟩ :=fin _ hq
    exact ⟨.inr y,js,⟨q2,q1⟩,q3,q4⟩
   | pan x=> exact hq.elim
 ·intro z hI
  cases z with
  | inr y=> exact hI.elim
  | inl s=>
   obtain ⟨js,q1,q2⟩ :=h7 s
   have:=hI.1
   rw [List.length_map,List.drop_length] at this
   exact ⟨.inr s,js,this,rfl,q1,q2⟩
 ·intro z hS
  cases z with
  | inl s=> exact hS.elim
  | inr y=>
   obtain ⟨js,q1,q2⟩ :=h8 y
   exact ⟨.inl y,js,hS.1.symm,hS.2,q1,q2⟩
 ·intro j z hS
  cases z with
  | inl s=> exact hS.elim
  | inr y=>
   obtain ⟨js,q1,q2⟩ :=h8 y
   refine ⟨.inl y,js,hS.1.symm,?_,q1,q2⟩
   have:=hS.2
   show exE y=_
   rw [this]
   by_cases hj : j=id
   ·rw [if_pos hj]
    have hb : Nat.beq j id=true:=by rw [hj];exact Nat.beq_refl id
    rw [hb];rfl
   ·rw [if_neg hj]
    cases hb : Nat.beq j id with
    | true=> exact absurd (Nat.eq_of_beq_eq_true hb) hj
    | false=> rfl
end
end Go.Sx
end
section
namespace Go.Sx
open Go.RowKit
section
variable {P : Program} {ρ σ τ : Type}
def pj : Ob→Option Nat
 | .mi _ _ _ c=> c
 | _=> none
def nxC (step : τ→σ→ρ⊕σ) (l : List τ) (d : τ) (D : List Nat→Option Nat→σ→St) (n0 : Nat) (left : List Nat) (s : σ) (st : St) : Option Nat→Prop
 | some j=> j∈left∧lG (fun _ s'=> D (left.erase j) (some j) s') n0 0 st (step (l.getD j d) s)
 | none=> False
def exC (step : τ→σ→ρ⊕σ) (l : List τ) (d : τ) (exE : ρ→Ex) (outE : ρ→St) (n0 : Nat) (left : List Nat) (s : σ) (e : Ex) (st : St) : Option Nat→Prop
 | some j=> j∈left∧gz exE outE n0 e st (step (l.getD j d) s)
 | none=> False
def cM (step : τ→σ→ρ⊕σ) (l : List τ) (d : τ) (exE : ρ→Ex) (outE : ρ→St) (outN : σ→St) (D : List Nat→Option Nat→σ→St) (n0 id it : Nat) (left : List Nat) (s : σ) : Ex→St→Prop
 | .normal,st=> nxC step l d D n0 left s st (pj (an st.h it))
 | .exit j,st=> bif Nat.beq j id then (left=[]→fl (outN s) n0 st)∧(left≠[]→exC step l d exE outE n0 left s .normal st (pj (an st.h it))) else exC step l d exE outE n0 left s (.exit j) st (pj (an st.h it))
 | .ret,st=> exC step l d exE outE n0 left s .ret st (pj (an st.h it))
 | .pan x,st=> exC step l d exE outE n0 left s (.pan x) st (pj (an st.h it))
variable {step : τ→σ→ρ⊕σ} {l : List τ} {d : τ} {n0 id it j : Nat} {exE : ρ→Ex} {outE : ρ→St} {outN : σ→St} {D : List Nat→Option Nat→σ→St} {left : List Nat} {s s' : σ} {st : St} {x : Value} {e : Ex} {y : ρ} {t : List (Nat×SV)} {h : List Ob}
@[go_sem] theorem U5 {m : Option Nat} {n : Nat} {left : List Nat} {c : Option Nat} : pj (.mi m n left c)=c:=(rfl)
@[go_sem] theorem Tu : nxC step l d D n0 left s st (some j)=(j∈left∧lG (fun _ s'=> D (left.erase j) (some j) s') n0 0 st (step (l.getD j d) s)) :=(rfl)
@[go_sem] theorem Tv : exC step l d exE outE n0 left s e st (some j)=(j∈left∧gz exE outE n0 e st (step (l.getD j d) s)) :=(rfl)
@[go_sem] theorem RX : cM step l d exE outE outN D n0 id it left s .normal ⟨t,h⟩=nxC step l d D n0 left s ⟨t,h⟩ (pj (an h it)) :=(rfl)
@[go_sem] theorem U6 : cM step l d exE outE outN D n0 id it left s (.exit j) ⟨t,h⟩=bif Nat.beq j id then (left=[]→fl (outN s) n0 ⟨t,h⟩)∧(left≠[]→exC step l d exE outE n0 left s .normal ⟨t,h⟩ (pj (an h it))) else exC step l d exE outE n0 left s (.exit j) ⟨t,h⟩ (pj (an h it)) :=(rfl)
@[go_sem] theorem W4 : cM step l d exE outE outN D n0 id it left s .ret ⟨t,h⟩=exC step l d exE outE n0 left s .ret ⟨t,h⟩ (pj (an h it)) :=(rfl)
@[go_sem] theorem W5 : cM step l d exE outE outN D n0 id it left s (.pan x) ⟨t,h⟩=exC step l d exE outE n0 left s (.pan x) ⟨t,h⟩ (pj (an h it)) :=(rfl)
attribute [go_sem] Fv
@[go_sem] theorem Tw {t : List (Nat×SV)} {h : List Ob} {d : Nat} {s : SV} : St.put ⟨t,h⟩ (some d) s=⟨(d,s) :: t,h⟩ :=(rfl)
@[go_sem] theorem Tx {t : List (Nat×SV)} {h : List Ob} {s : SV} : St.put ⟨t,h⟩ none s=⟨t,h⟩ :=(rfl)
theorem uc (l : List τ) (d : τ) : (List.range l.length).map (fun j=> l.getD j d)=l:=by
 apply List.ext_getElem
 ·simp
 ·intro i h1 h2
  simp only [List.length_map,List.length_range] at h1
  simp [List.getD_eq_getElem?_getD,List.getElem?_eq_getElem h1]
end
end Go.Sx
end
section
namespace Go.Sx
open Go.RowKit
inductive NLoc where
 | slot (i : Nat) (o : Ob)
 | cell (i j : Nat) (o : Ob)
def HS (j n : Nat) : Ob→Ob
 | .cells l=> .cells (l.set j (.os n))
 | o=> o
def M1 (j : Nat) : Ob→Prop
 | .cells l=> nth l j=some (.v (.slice none 0 0))
 | _=> False
def we : Ob→Prop
 | .row _ l=> l=[]
 | .grid _ l=> l=[]
 | _=> False
def mkN : List NLoc→St→St
 | [],st=> st
 | .slot i o :: r,⟨t,h⟩ => mkN r ⟨(i,.os h.length) :: t,h ++ [o]⟩
 | .cell i j o :: r,⟨t,h⟩ => mkN r ⟨t,bM h i (HS j h.length (an h i)) ++ [o]⟩
def okN : List NLoc→St→Prop
 | [],_=> True
 | .slot i o :: r,⟨t,h⟩ => lk i t= .v (.slice none 0 0)∧we o∧okN r ⟨(i,.os h.length) :: t,h ++ [o]⟩
 | .cell i j o :: r,⟨t,h⟩ => M1 j (an h i)∧we o∧okN r ⟨t,bM h i (HS j h.length (an h i)) ++ [o]⟩
section
variable {i j m n : Nat} {o : Ob} {r : List NLoc} {t t2 : List (Nat×SV)} {h h2 : List Ob} {l : List SV} {ns : List NLoc} {js : List Nat} {st : St}
@[go_sem] theorem U7 : mkN [] st=st:=(rfl)
@[go_sem] theorem Tz : mkN (.slot i o :: r) ⟨t,h⟩=mkN r ⟨(i,.os h.length) :: t,h ++ [o]⟩ :=(rfl)
@[go_sem] theorem TA : mkN (.cell i j o :: r) ⟨t,h⟩=mkN r ⟨t,bM h i (HS j h.length (an h i)) ++ [o]⟩ :=(rfl)
@[go_sem] theorem U8 : okN [] st=True:=(rfl)
@[go_sem] theorem TB : okN (.slot i o :: r) ⟨t,h⟩=(lk i t= .v (.slice none 0 0)∧we o∧okN r ⟨(i,.os h.length) :: t,h ++ [o]⟩) :=(rfl)
@[go_sem] theorem TC : okN (.cell i j o :: r) ⟨t,h⟩=(M1 j (an h i)∧we o∧okN r ⟨t,bM h i (HS j h.length (an h i)) ++ [o]⟩) :=(rfl)
@[go_sem] theorem PE : HS j n (.cells l)= .cells (l.set j (.os n)) :=(rfl)
@[go_sem] theorem PH : M1 j (.cells l)=(nth l j=some (.v (.slice none 0 0))) :=(rfl)
theorem DC (h : we o) : (∃ k,o= .row k [])∨∃ k,o= .grid k [] :=by
 cases o <;> simp only [we] at h
 ·subst h;exact .inl ⟨_,rfl⟩
 ·subst h;exact .inr ⟨_,rfl⟩
theorem pl : ∀ (ns : List NLoc) (st0 st : St),NilS st0 st→okN ns st→NilS st0 (mkN ns st)
 | [],_,_,hn,_=> hn
 | .slot i o :: r,st0,⟨t,h⟩,hn,hk=> pl r st0 _ (.slot o hn hk.1 (DC hk.2.1)) hk.2.2
 | .cell i j o :: r,st0,⟨t,h⟩,hn,hk=> by
  refine pl r st0 _ ?_ hk.2.2
  have h1:=hk.1
  cases ho : an h i with
  | cells l=>
   rw [ho] at h1
   simp only [M1,dA] at h1
   exact .cell o hn ho h1 (DC hk.2.1)
  | _=> rw [ho] at h1;exact h1.elim
def ka (m : Nat) (ns : List NLoc) (js : List Nat) (st d : St) : Prop:=st.h.length=m∧okN ns st∧m≤d.h.length∧Sub js m (mkN ns st) d
@[go_sem] theorem RY : ka m ns js ⟨t,h⟩ ⟨t2,h2⟩=(h.length=m∧okN ns ⟨t,h⟩∧m≤h2.length∧Sub js m (mkN ns ⟨t,h⟩) ⟨t2,h2⟩) :=(rfl)
end
theorem av {P : Program} {ro : Option Nat} {N : Nat} (c : Code) : aw P ro N L0 c:=by
 induction c with
 | seq a b ha hb=> exact ⟨ha,hb⟩
 | cond _ a b ha hb=> exact ⟨ha,hb⟩
 | block id c hc=>
  cases c with
  | loop c=> exact fun _ _ _ _ _ h=> by cases h
  | rangeFunc f ps a b=> exact fun _ _ _ _ _ h=> by cases h
  | _=> exact hc
 | _=> trivial
section
variable {ρ σ τ : Type}
def pT : Nat→σ→Prop:=fun _ _=> True
@[go_sem] theorem W6 {step : Nat→σ→ρ⊕σ} {n i : Nat} {s : σ} : okI step pT n i s=True:=eq_true (kL _ _ _ fun _ _ _ _=> trivial)
def LCR (m : Nat) (ns : List NLoc) (js : List Nat) (D : Nat→σ→St) (step : Nat→σ→ρ⊕σ) (p : Nat→σ→Prop) (n : Nat) (s0 : σ) (B : Prop) (exE : ρ→Ex) (outE : ρ→St) (st : St) : LCon:=
 LC (ka m ns js st (D 0 s0)∧B∧okI step p n 0 s0) (ak step n 0 s0) exE outE (D n)
def LCV (m : Nat) (ns : List NLoc) (js : List Nat) (D : Nat→σ→St) (step : Nat→σ→ρ⊕σ) (p : Nat→σ→Prop) (n : Nat) (s0 : σ) (exE : ρ→Ex) (outE : ρ→St) (st : St) : LCon:=
 LC (ka m ns js st (D 0 s0)∧okI step p n 0 s0∧∀ s,ak step n 0 s0≠ .inr s) (ak step n 0 s0) exE outE (D n)
variable {m : Nat} {ns : List NLoc} {js : List Nat} {step : Nat→σ→ρ⊕σ} {p : Nat→σ→Prop} {n : Nat} {s0 : σ} {B : Prop} {exE : ρ→Ex} {outE : ρ→St} {outN : σ→St} {st : St} {Q : Ex→St→Prop}
@[go_sem] theorem RZ {D : Nat→σ→St} : jF Q (some (LCR m ns js D step p n s0 B exE outE st))=((ka m ns js st (D 0 s0)∧B∧okI step p n 0 s0)∧(∀ x,ak step n 0 s0= .inl x→Q (exE x) (outE x))∧∀ s,ak step n 0 s0= .inr s→Q .normal (D n s)) :=y5
@[go_sem] theorem R3 {D : Nat→σ→St} : jF Q (some (LCV m ns js D step p n s0 exE outE st))=((ka m ns js st (D 0 s0)∧okI step p n 0 s0∧∀ s,ak step n 0 s0≠ .inr s)∧∀ x,ak step n 0 s0= .inl x→Q (exE x) (outE x)) :=by
 refine y5.trans ?_
 apply propext
 constructor
 ·rintro ⟨h1,h2,_⟩;exact ⟨h1,h2⟩
 ·rintro ⟨h1,h2⟩;exact ⟨h1,h2,fun s hs=> absurd hs (h1.2.2 s)⟩
def cR (step : Nat→σ→ρ⊕σ) (exE : ρ→Ex) (outE : ρ→St) (D : Nat→σ→St) (m id k : Nat) (s : σ) : Ex→St→Prop
 | .normal,st=> lG D m k st (step k s)
 | .exit j,st=> gz exE outE m (bif Nat.beq j id then .normal else .exit j) st (step k s)
 | .ret,st=> gz exE outE m .ret st (step k s)
 | .pan x,st=> gz exE outE m (.pan x) st (step k s)
def cZ (d : St) (m id : Nat) : Ex→St→Prop
 | .exit j,st=> bif Nat.beq j id then fl d m st else False
 | _,_=> False
variable {D : Nat→σ→St} {id k j : Nat} {s : σ} {x : Value} {d : St} {e e' : Ex}
@[go_sem] theorem R4 : cR step exE outE D m id k s .normal st=lG D m k st (step k s) :=(rfl)
@[go_sem] theorem U9 : cR step exE outE D m id k s (.exit j) st=gz exE outE m (bif Nat.beq j id then .normal else .exit j) st (step k s) :=(rfl)
@[go_sem] theorem W7 : cR step exE outE D m id k s .ret st=gz exE outE m .ret st (step k s) :=(rfl)
@[go_sem] theorem W8 : cR step exE outE D m id k s (.pan x) st=gz exE outE m (.pan x) st (step k s) :=(rfl)
@[go_sem] theorem U_ : cZ d m id (.exit j) st=bif Nat.beq j id then fl d m st else False:=(rfl)
@[congr] theorem TD {st' : St} (h : st=st') (he : e=e') : cR step exE outE D m id k s e st=cR step exE outE D m id k s e' st':=by rw [h,he]
@[congr] theorem TE {st' : St} (h : st=st') (he : e=e') : cZ d m id e st=cZ d m id e' st':=by rw [h,he]
@[congr] theorem N_ {r r' : ρ⊕σ} (h : r=r') (he : e=e') : gz exE outE m e st r=gz exE outE m e' st r':=by rw [h,he]
end
section
variable {P : Program} {ρ σ τ : Type} {ts : Tis} {G : Cons} {ro : Option Nat} {N : Nat} {id : Nat} {c : Code} {C : St→Option LCon} {m : Nat} {ns : List NLoc} {js : List Nat} {step : Nat→σ→ρ⊕σ} {p : Nat→σ→Prop} {n : Nat} {s0 : σ} {exE : ρ→Ex} {outE : ρ→St} {D : Nat→σ→St}
theorem HT {n0 : Nat} (hn0 : n0=m) {s : σ} {k : Nat} (hlt : k < n) {I : Nat×σ→Prop} {μ : Nat×σ→Nat} {outN : σ→St} {pre : Prop} {run : ρ⊕σ}
  (hI : ∀ s',step k s= .inr s'→I (k + 1,s')∧μ (k + 1,s') < μ (k,s)) (hx : ∀ x,step k s= .inl x→run= .inl x) :
  ∀ e st',cR step exE outE D m id k s e st'→mb (fun x : Nat×σ=> D x.1 x.2) I μ n0 (k,s) id (fun e st'=> ∃ r js,(LC pre run exE outE outN).post r∧(LC pre run exE outE outN).ex r=e∧n0≤((LC pre run exE outE outN).out r).h.length∧Sub js n0 st' ((LC pre run exE outE outN).out r)) e st':=by
 subst hn0
 have hfin : ∀ e st',gz exE outE n0 e st' (step k s)→∃ r js,(LC pre run exE outE outN).post r∧(LC pre run exE outE outN).ex r=e∧n0≤((LC pre run exE outE outN).out r).h.length∧Sub js n0 st' ((LC pre run exE outE outN).out r) :=by
  intro e st' q
  cases hs : step k s with
  | inr s'=> rw [hs] at q;exact q.elim
  | inl x=>
   rw [hs] at q
   obtain ⟨q2,js,q3,q4⟩ :=q
   exact ⟨.inl x,js,(hx x hs).symm,q2,q3,q4⟩
 intro e st' hq
 cases e with
 | normal=>
  change lG D n0 k st' (step k s) at hq
  cases hs : step k s with
  | inl x=> rw [hs] at hq;exact hq.elim
  | inr s'=>
   rw [hs] at hq
   obtain ⟨js,q3,q4⟩ :=hq
   obtain ⟨i1,i2⟩ :=hI s' hs
   exact ⟨(k + 1,s'),js,i1,i2,q3,q4⟩
 | exit j=>
  change gz exE outE n0 (bif Nat.beq j id then .normal else .exit j) st' (step k s) at hq
  show bif Nat.beq j id then _ else _
  cases hb : Nat.beq j id with
  | true=> rw [hb] at hq;exact hfin _ _ hq
  | false=> rw [hb] at hq;exact hfin _ _ hq
 | ret=> exact hfin _ _ hq
 | pan x=> exact hfin _ _ hq
theorem rv {B : Prop} (hm : P.follows .mixedOrders=true) (hts : ts.ok P) (hG : ConsOk P G) (hc : bQ N c=true) (hC : ∀ st,C st=some (LCR m ns js D step p n s0 B exE outE st))
  (h : B→∀ k s,k < n→p k s→∃ L Q,aw P ro N L c∧(∀ e st',Q e st'→cR step exE outE D m id k s e st')∧exec ts G L c (D k s) Q)
  (h2 : B→∀ s,∃ Q,(∀ e st',Q e st'→cZ (D n s) m id e st')∧exec ts G L0 c (D n s) Q) : fO P ro N id (.loop c) C:=by
 refine lF hm hts hG hc fun st lc hC' hp=> ?_
 rw [hC st] at hC'
 cases hC'
 obtain ⟨⟨hlen,hok,hle,hsub⟩,hB,h1⟩ :=hp
 refine ⟨Nat×σ,fun x=> D x.1 x.2,fun x=> x.1≤n∧okI step p (n - x.1) x.1 x.2∧ak step (n - x.1) x.1 x.2=ak step n 0 s0,fun x=> n - x.1,(0,s0),mkN ns st,js,⟨Nat.zero_le _,by simpa using h1,by simp⟩,pl ns st st (.refl _) hok,by rw [hlen];exact hle,by rw [hlen];exact hsub,?_⟩
 rintro ⟨k,s⟩ ⟨hk,hJ,hrun⟩
 simp only at hk hJ hrun
 rcases Nat.lt_or_ge k n with hlt | hge
 ·rw [show n - k=(n - k - 1) + 1 by omega] at hrun hJ
  obtain ⟨L,Q,hl,hQ,hex⟩ :=h hB k s hlt hJ.1
  have hI : ∀ s',step k s= .inr s'→okI step p (n - (k + 1)) (k + 1) s'∧ak step (n - (k + 1)) (k + 1) s'=ak step n 0 s0:=fun s' hs=> by
   have:=hJ.2 s' hs
   rw [show n - k - 1=n - (k + 1) by omega] at this hrun
   simp only [ak,hs] at hrun
   exact ⟨this,hrun⟩
  have hx : ∀ x,step k s= .inl x→ak step n 0 s0= .inl x:=fun x hs=> by
   simp only [ak,hs] at hrun
   exact hrun.symm
  exact ⟨L,Q,hl,fun e st' q=> HT hlen hlt (fun s' hs=> ⟨⟨hlt,hI s' hs⟩,by simp only;omega⟩) hx e st' (hQ e st' q),hex⟩
 ·have hkn : k=n:=by omega
  subst hkn
  obtain ⟨Q,hQ,hex⟩ :=h2 hB s
  refine ⟨L0,Q,av c,fun e st' q=> ?_,hex⟩
  have hq:=hQ e st' q
  simp only [Nat.sub_self,ak] at hrun
  cases e with
  | exit j=>
   change bif Nat.beq j id then fl (D k s) m st' else False at hq
   show bif Nat.beq j id then _ else _
   cases hb : Nat.beq j id with
   | true=>
    rw [hb] at hq
    obtain ⟨js,q3,q4⟩ :=hq
    exact ⟨.inr s,js,hrun,rfl,by rw [hlen];exact q3,by rw [hlen];exact q4⟩
   | false=> rw [hb] at hq;exact hq.elim
  | _=> exact hq.elim
theorem bY {B : Prop} (hm : P.follows .mixedOrders=true) (hts : ts.ok P) (hG : ConsOk P G) (hc : bQ N c=true) (hC : ∀ st,C st=some (LCR m ns js D step p n s0 B exE outE st)) (M : Int) (hn : n=M.toNat) (hB : B→M < 9223372036854775808)
  (h : B→∀ k s,k < n→p k s→IntKind.i64.wrap ((k : Int) + 1)=((k + 1 : Nat) : Int)→decide ((k : Int) < M)=true→∃ L,aw P ro N L c∧exec ts G L c (D k s) (cR step exE outE D m id k s))
  (h2 : B→∀ s,decide ((n : Int) < M)=false→exec ts G L0 c (D n s) (cZ (D n s) m id)) : fO P ro N id (.loop c) C:=by
 refine rv hm hts hG hc hC (fun b k s hlt hp=> ?_) fun b s=> ⟨_,fun _ _ q=> q,h2 b s ?_⟩
 ·obtain ⟨L,h1,h3⟩ :=h b k s hlt hp (y_ (hn▸hlt) (hB b)) (decide_eq_true (by omega))
  exact ⟨L,_,h1,fun _ _ q=> q,h3⟩
 ·rw [decide_eq_false_iff_not];omega
theorem HU (E : Prop) (hm : P.follows .mixedOrders=true) (hts : ts.ok P) (hG : ConsOk P G) (hc : bQ N c=true) (hC : ∀ st,C st=some (LCR m ns js D step p n s0 True exE outE st)) (M : Int) (hn : n=M.toNat) (hE : E→M < 9223372036854775808)
  (h : E→∀ k s,k < n→p k s→IntKind.i64.wrap ((k : Int) + 1)=((k + 1 : Nat) : Int)→decide ((k : Int) < M)=true→∃ L,aw P ro N L c∧exec ts G L c (D k s) (cR step exE outE D m id k s))
  (h2 : E→∀ s,decide ((n : Int) < M)=false→exec ts G L0 c (D n s) (cZ (D n s) m id)) (h3 : ¬ E→∀ k s,exec ts G L0 c (D k s) fun _ _=> False) : fO P ro N id (.loop c) C:=by
 by_cases hb : E
 ·refine rv hm hts hG hc hC (fun b k s hlt hp=> ?_) fun b s=> ⟨_,fun _ _ q=> q,h2 hb s ?_⟩
  ·obtain ⟨L,h1,h4⟩ :=h hb k s hlt hp (y_ (hn▸hlt) (hE hb)) (decide_eq_true (by omega))
   exact ⟨L,_,h1,fun _ _ q=> q,h4⟩
  ·rw [decide_eq_false_iff_not];omega
 ·exact rv hm hts hG hc hC (fun _ k s _ _=> ⟨L0,_,av c,fun _ _ q=> q.elim,h3 hb k s⟩) fun _ s=> ⟨_,fun _ _ q=> q.elim,h3 hb n s⟩
theorem HV (hm : P.follows .mixedOrders=true) (hts : ts.ok P) (hG : ConsOk P G) (hc : bQ N c=true) (hC : ∀ st,C st=some (LCV m ns js D step p n s0 exE outE st))
  (h : ∀ k s,p k s→∃ L,aw P ro N L c∧exec ts G L c (D k s) (cR step exE outE D m id k s)) : fO P ro N id (.loop c) C:=by
 refine lF hm hts hG hc fun st lc hC' hp=> ?_
 rw [hC st] at hC'
 cases hC'
 obtain ⟨⟨hlen,hok,hle,hsub⟩,h1,hno⟩ :=hp
 refine ⟨Nat×σ,fun x=> D x.1 x.2,fun x=> x.1≤n∧okI step p (n - x.1) x.1 x.2∧ak step (n - x.1) x.1 x.2=ak step n 0 s0,fun x=> n - x.1,(0,s0),mkN ns st,js,⟨Nat.zero_le _,by simpa using h1,by simp⟩,pl ns st st (.refl _) hok,by rw [hlen];exact hle,by rw [hlen];exact hsub,?_⟩
 rintro ⟨k,s⟩ ⟨hk,hJ,hrun⟩
 simp only at hk hJ hrun
 have hlt : k < n:=by
  rcases Nat.lt_or_ge k n with h | h
  ·exact h
  ·have hkn : k=n:=by omega
   subst hkn
   simp only [Nat.sub_self,ak] at hrun
   exact absurd hrun.symm (hno s)
 rw [show n - k=(n - k - 1) + 1 by omega] at hrun hJ
 obtain ⟨L,hl,hex⟩ :=h k s hJ.1
 have hI : ∀ s',step k s= .inr s'→okI step p (n - (k + 1)) (k + 1) s'∧ak step (n - (k + 1)) (k + 1) s'=ak step n 0 s0:=fun s' hs=> by
  have:=hJ.2 s' hs
  rw [show n - k - 1=n - (k + 1) by omega] at this hrun
  simp only [ak,hs] at hrun
  exact ⟨this,hrun⟩
 have hx : ∀ x,step k s= .inl x→ak step n 0 s0= .inl x:=fun x hs=> by
  simp only [ak,hs] at hrun
  exact hrun.symm
 exact ⟨L,_,hl,fun e st' q=> HT hlen hlt (fun s' hs=> ⟨⟨hlt,hI s' hs⟩,by simp only;omega⟩) hx e st' q,hex⟩
theorem jm {α : Type} {l : List α} (h : l.length≤bC) : (l.length : Int) < 9223372036854775808:=by unfold bC at h;omega
end
section
universe u
variable {α : Type u} {G : List SV→α→Prop} {r : List SV}
theorem cy {k : Int→List SV→Option α} (h : ∀ n l c,k n l=some c→G (.v (.int .i64 n) :: l) c) : ∀ l c,pI k l=some c→G l c:=fun l c hc=> by
 obtain ⟨n,r,rfl,h1⟩ :=F9 hc;exact h n r c h1
theorem PK {k : Bool→List SV→Option α} (h : ∀ n l c,k n l=some c→G (.v (.bool n) :: l) c) : ∀ l c,pB k l=some c→G l c:=fun l c hc=> by
 obtain ⟨n,r,rfl,h1⟩ :=Ph hc;exact h n r c h1
theorem df {t : Tag} {k : List t.T→List SV→Option α} (h : ∀ n l c,k n l=some c→G (.rs t n :: l) c) : ∀ l c,pR t k l=some c→G l c:=fun l c hc=> by
 obtain ⟨n,r,rfl,h1⟩ :=F_ hc;exact h n r c h1
theorem bL {t : Tag} {k : t.T→List SV→Option α} (h : ∀ n l c,k n l=some c→G (.agg (cellsOf t n) :: l) c) : ∀ l c,pD t k l=some c→G l c:=fun l c hc=> by
 obtain ⟨n,r,rfl,h1⟩ :=k9 hc;exact h n r c h1
theorem pm {t : Tag} {k : t.T→List SV→Option α} (h : ∀ n l c,k n l=some c→G (.ep (cellsOf t n) 0 :: l) c) : ∀ l c,pX t k l=some c→G l c:=fun l c hc=> by
 obtain ⟨n,r,rfl,h1⟩ :=xu hc;exact h n r c h1
theorem aV {c0 : α} (h : G [] c0) : ∀ l c,pE c0 l=some c→G l c:=fun l c hc=> by
 obtain ⟨rfl,rfl⟩ :=iJ hc;exact h
end
end Go.Sx
end
section
namespace Go.Sx
open Go.RowKit
section
universe u
variable {α : Type u} {G : List SV→α→Prop}
def apO : Option (List SV→Option α)→List SV→Option α
 | some q,r=> q r
 | none,_=> none
@[go_sem] theorem TF {q : List SV→Option α} {r : List SV} : apO (some q) r=q r:=(rfl)
@[go_sem] theorem TG {r : List SV} : apO (α:=α) none r=none:=(rfl)
def pFn (f : Nat) (k : List SV→Option (List SV→Option α)) : List SV→Option α
 | .fn g [] caps :: r=> bif Nat.beq g f then apO (k caps) r else none
 | _=> none
def pXF (f : Nat) (k : List SV→Option (List SV→Option α)) : List SV→Option α
 | .ep [.fn g [] caps] 0 :: r=> bif Nat.beq g f then apO (k caps) r else none
 | _=> none
@[go_sem] theorem W9 {f g : Nat} {k : List SV→Option (List SV→Option α)} {caps r : List SV} : pFn f k (.fn g [] caps :: r)=bif Nat.beq g f then apO (k caps) r else none:=(rfl)
@[go_sem] theorem W_ {f g : Nat} {k : List SV→Option (List SV→Option α)} {caps r : List SV} : pXF f k (.ep [.fn g [] caps] 0 :: r)=bif Nat.beq g f then apO (k caps) r else none:=(rfl)
theorem DD {o : Option (List SV→Option α)} {r : List SV} {c : α} (h : apO o r=some c) : ∃ q,o=some q∧q r=some c:=by
 cases o with
 | none=> cases h
 | some q=> exact ⟨q,rfl,h⟩
theorem ql {f : Nat} {k : List SV→Option (List SV→Option α)} (h : ∀ caps q,k caps=some q→∀ l c,q l=some c→G (.fn f [] caps :: l) c) : ∀ l c,pFn f k l=some c→G l c:=fun l c hc=> by
 unfold pFn at hc
 split at hc
 ·rename_i g caps r
  cases hb : Nat.beq g f with
  | false=> rw [hb] at hc;cases hc
  | true=>
   rw [hb] at hc
   obtain ⟨q,h1,h2⟩ :=DD hc
   have:=Nat.eq_of_beq_eq_true hb
   subst this
   exact h caps q h1 r c h2
 ·cases hc
theorem DE {f : Nat} {k : List SV→Option (List SV→Option α)} (h : ∀ caps q,k caps=some q→∀ l c,q l=some c→G (.ep [.fn f [] caps] 0 :: l) c) : ∀ l c,pXF f k l=some c→G l c:=fun l c hc=> by
 unfold pXF at hc
 split at hc
 ·rename_i g caps r
  cases hb : Nat.beq g f with
  | false=> rw [hb] at hc;cases hc
  | true=>
   rw [hb] at hc
   obtain ⟨q,h1,h2⟩ :=DD hc
   have:=Nat.eq_of_beq_eq_true hb
   subst this
   exact h caps q h1 r c h2
 ·cases hc
end
theorem M2 {α : Type 1} {G : List SV→α→Prop} {t : Tag} {k : List t.T→List SV→Option α} (h : ∀ n l c,k n l=some c→G (.ep [.rs t n] 0 :: l) c) : ∀ l c,pXR t k l=some c→G l c:=fun l c hc=> by
 obtain ⟨n,r,rfl,h1⟩ :=DB hc;exact h n r c h1
theorem cl3 {p : Prop} (h : p:=by ((repeat' (first | with_reducible refine And.intro ?_ ?_ | ((with_reducible show _≠_);first | assumption | omega | (simp_all [am,aC];done) | grind) | with_reducible intro _)) <;> (first | done | assumption | rfl | omega | exact cl | (simp_all only [Gb,Gc,Sum.inr.injEq,Sum.inl.injEq,forall_eq',forall_const,true_imp_iff,cond_true,cond_false,and_self];done)))) : p:=h
def HW (k : Tag) (K : List k.T→Option HCon) : List Ob→Option HCon
 | [.row k' l] => if h : k'=k then K (h▸l) else none
 | _=> none
theorem HX {k : Tag} {K : List k.T→Option HCon} {h : List Ob} {c : HCon} (hh : HW k K h=some c) : ∃ l,h=[.row k l]∧K l=some c:=by
 unfold HW at hh;split at hh
 ·split at hh
  ·rename_i e;subst e;exact ⟨_,rfl,hh⟩
  ·cases hh
 ·cases hh
end Go.Sx
end
