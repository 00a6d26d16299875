/- Part of the proof that the law RegisterOrder returns true and leaves its arguments as they were, for all arguments of bulk at most 1048576 (the Upto form). -/
import Derived.Calls
import Derived.Orders
import Derived.Below
import Derived.KernelRfl
import Derived.Laws.Sem
import Derived.Laws.World
import Derived.Laws.Cells
import Derived.Laws.Entries
set_option linter.all false
set_option maxHeartbeats 4000000
set_option maxRecDepth 100000
section
namespace Go.Sx
open Go.RowKit
structure Range where
 lo:Int
 hi:Int
 deriving Inhabited,DecidableEq
structure Ratio where
 n:Int
 d:Int
 deriving Inhabited,DecidableEq
structure Reach where
 name:ByteArray
 up:Int
 delay:Int
 cap:Int
 bank:Int
 siphon:Int
 evap:Range
 seep:Ratio×Ratio
 deriving Inhabited,DecidableEq
structure Farm where
 name:ByteArray
 reach:Int
 area:Int
 crop:Int
 deriving Inhabited,DecidableEq
structure Crop where
 name:ByteArray
 need:Int
 deriving Inhabited,DecidableEq
structure Right where
 name:ByteArray
 kind:Int
 farm:Int
 reach:Int
 rank:Int
 litres:Int
 since:Int
 to:Int
 every:Int
 length:Int
 deriving Inhabited,DecidableEq
structure Duty where
 name:ByteArray
 farm:Int
 reach:Int
 due:Int
 deriving Inhabited,DecidableEq
structure Well where
 farm:Int
 reach:Int
 d:Int
 kernel:List Int
 deriving Inhabited,DecidableEq
structure Part where
 farm:Int
 share:Ratio
 deriving Inhabited,DecidableEq
structure Deed where
 no:Int
 kind:Int
 right:Int
 since:Int
 to:Int
 parts:List Part
 of_:Int
 at_:Int
 known:Int
 deriving Inhabited,DecidableEq
structure Holding where
 right:Int
 farm:Int
 litres:Int
 rank:Int
 deriving Inhabited,DecidableEq
structure RegisterTitle where
 right:Int
 farm:Int
 deriving Inhabited,DecidableEq
structure Tank where
 cap:Int
 start:Int
 deriving Inhabited,DecidableEq
structure District where
 name:ByteArray
 hours:Int
 tank:Tank
 reaches:List Reach
 farms:List Farm
 crops:List Crop
 rights:List Right
 duties:List Duty
 wells:List Well
 deriving Inhabited,DecidableEq
inductive Tag where
 |reach|farm|crop|right|duty|int|well|part|deed|holding|bool|registerTitle|fnc|tank|district|ratio|ratio2|range|str
 deriving DecidableEq
abbrev Tag.T:Tag->Type
 | .reach=>Reach
 | .farm=>Farm
 | .crop=>Crop
 | .right=>Right
 | .duty=>Duty
 | .int=>Int
 | .well=>Well
 | .part=>Part
 | .deed=>Deed
 | .holding=>Holding
 | .bool=>Bool
 | .registerTitle=>RegisterTitle
 | .fnc=>Option Nat
 | .tank=>Tank
 | .district=>District
 | .ratio=>Ratio
 | .ratio2=>Ratio×Ratio
 | .range=>Range
 | .str=>ByteArray
def o9:Tag->Nat
 | .reach=>0
 | .farm=>1
 | .crop=>2
 | .right=>3
 | .duty=>4
 | .int=>5
 | .well=>6
 | .part=>7
 | .deed=>8
 | .holding=>9
 | .bool=>10
 | .registerTitle=>11
 | .fnc=>12
 | .tank=>13
 | .district=>14
 | .ratio=>15
 | .ratio2=>16
 | .range=>17
 | .str=>18
def rank:Tag->Nat
 | .reach=>0
 | .farm=>0
 | .crop=>0
 | .right=>0
 | .duty=>0
 | .int=>0
 | .well=>1
 | .part=>0
 | .deed=>1
 | .holding=>0
 | .bool=>0
 | .registerTitle=>0
 | .fnc=>1
 | .tank=>0
 | .district=>2
 | .ratio=>0
 | .ratio2=>0
 | .range=>0
 | .str=>0
def Tag.ofName:String->Option Tag
 | "api.Reach" =>some .reach
 | "api.Farm" =>some .farm
 | "api.Crop" =>some .crop
 | "api.Right" =>some .right
 | "api.Duty" =>some .duty
 | "api.Errno" =>some .int
 | "expand.refused" =>some .int
 | "int" =>some .int
 | "int64" =>some .int
 | "api.Well" =>some .well
 | "api.Part" =>some .part
 | "api.Deed" =>some .deed
 | "api.Holding" =>some .holding
 | "bool" =>some .bool
 | "register.title" =>some .registerTitle
 | "func(register.book, api.Deed, int)" =>some .fnc
 | "api.Tank" =>some .tank
 | "api.District" =>some .district
 | "api.Ratio" =>some .ratio
 | "[2]api.Ratio" =>some .ratio2
 | "api.Range" =>some .range
 | "string" =>some .str
 |_=>none
instance instDecTag:(k:Tag)->DecidableEq k.T
 | .reach=>inferInstanceAs (DecidableEq (Reach))
 | .farm=>inferInstanceAs (DecidableEq (Farm))
 | .crop=>inferInstanceAs (DecidableEq (Crop))
 | .right=>inferInstanceAs (DecidableEq (Right))
 | .duty=>inferInstanceAs (DecidableEq (Duty))
 | .int=>inferInstanceAs (DecidableEq (Int))
 | .well=>inferInstanceAs (DecidableEq (Well))
 | .part=>inferInstanceAs (DecidableEq (Part))
 | .deed=>inferInstanceAs (DecidableEq (Deed))
 | .holding=>inferInstanceAs (DecidableEq (Holding))
 | .bool=>inferInstanceAs (DecidableEq (Bool))
 | .registerTitle=>inferInstanceAs (DecidableEq (RegisterTitle))
 | .fnc=>inferInstanceAs (DecidableEq (Option Nat))
 | .tank=>inferInstanceAs (DecidableEq (Tank))
 | .district=>inferInstanceAs (DecidableEq (District))
 | .ratio=>inferInstanceAs (DecidableEq (Ratio))
 | .ratio2=>inferInstanceAs (DecidableEq (Ratio×Ratio))
 | .range=>inferInstanceAs (DecidableEq (Range))
 | .str=>inferInstanceAs (DecidableEq (ByteArray))
structure Res where
 yv:Value
 n:Nat
 R:(Nat->Prop)->List Nat->World->Prop
 loc:∀ (F F':Nat->Prop) (bs:List Nat) (w w':World),R F bs w->w.heap.size<=w'.heap.size->(∀ b,b<w.heap.size->¬F b->w'.heap[b]? =w.heap[b]?)->(∀ b,b<w.heap.size->F' b->F b)->R F' bs w'
instance:Inhabited Res:=⟨⟨.nilFunc,0,fun _ _ _=>True,fun _ _ _ _ _ _ _ _ _=>trivial⟩⟩
inductive SV where
 |any
 |v (x:Value)
 |ptr (id off:Nat)
 |os (id:Nat)
 |e0
 |rp (sz id:Nat) (i:Int) (off:Nat)
 |gr (id:Nat) (i:Int)
 |gp (sz id:Nat) (i j:Int) (off:Nat)
 |ep (cells:List SV) (off:Nat)
 |rs (k:Tag) (l:List k.T)
 |ls (l:List SV)
 |rm (kk vk:Tag) (l:List (kk.T×vk.T))
 |agg (l:List SV)
 |tup (l:List SV)
 |fn (f:FuncId) (first caps:List SV)
 |nw (k:Tag) (l:List k.T)
 |nm (kk vk:Tag) (l:List (kk.T×vk.T))
 |ng (k:Tag) (l:List (List k.T))
 |gd (j:Nat) (want:Bool) (s:SV)
 |vw (sz id:Nat) (lo hi:Int)
 |rc (k:Tag) (l:List k.T)
 deriving Inhabited
abbrev SV.i (n:Int):SV:=.v (.int .i64 n)
abbrev SV.b (x:Bool):SV:=.v (.bool x)
abbrev SV.s (x:ByteArray):SV:=.v (.string x)
def fnV:Option Nat->SV|some f=>.fn f [] [] |none=>.v .nilFunc
def cellsOf:(k:Tag)->k.T->List SV
 | .reach,x=>[.v (.string x.name),.v (.int .i64 x.up),.v (.int .i64 x.delay),.v (.int .i64 x.cap),.v (.int .i64 x.bank),.v (.int .i64 x.siphon),.v (.int .i64 x.evap.lo),.v (.int .i64 x.evap.hi),.v (.int .i64 x.seep.1.n),.v (.int .i64 x.seep.1.d),.v (.int .i64 x.seep.2.n),.v (.int .i64 x.seep.2.d)]
 | .farm,x=>[.v (.string x.name),.v (.int .i64 x.reach),.v (.int .i64 x.area),.v (.int .i64 x.crop)]
 | .crop,x=>[.v (.string x.name),.v (.int .i64 x.need)]
 | .right,x=>[.v (.string x.name),.v (.int .i64 x.kind),.v (.int .i64 x.farm),.v (.int .i64 x.reach),.v (.int .i64 x.rank),.v (.int .i64 x.litres),.v (.int .i64 x.since),.v (.int .i64 x.to),.v (.int .i64 x.every),.v (.int .i64 x.length)]
 | .duty,x=>[.v (.string x.name),.v (.int .i64 x.farm),.v (.int .i64 x.reach),.v (.int .i64 x.due)]
 | .int,x=>[.v (.int .i64 x)]
 | .well,x=>[.v (.int .i64 x.farm),.v (.int .i64 x.reach),.v (.int .i64 x.d),.rs .int x.kernel]
 | .part,x=>[.v (.int .i64 x.farm),.v (.int .i64 x.share.n),.v (.int .i64 x.share.d)]
 | .deed,x=>[.v (.int .i64 x.no),.v (.int .i64 x.kind),.v (.int .i64 x.right),.v (.int .i64 x.since),.v (.int .i64 x.to),.rs .part x.parts,.v (.int .i64 x.of_),.v (.int .i64 x.at_),.v (.int .i64 x.known)]
 | .holding,x=>[.v (.int .i64 x.right),.v (.int .i64 x.farm),.v (.int .i64 x.litres),.v (.int .i64 x.rank)]
 | .bool,x=>[.v (.bool x)]
 | .registerTitle,x=>[.v (.int .i64 x.right),.v (.int .i64 x.farm)]
 | .fnc,x=>[fnV x]
 | .tank,x=>[.v (.int .i64 x.cap),.v (.int .i64 x.start)]
 | .district,x=>[.v (.string x.name),.v (.int .i64 x.hours),.v (.int .i64 x.tank.cap),.v (.int .i64 x.tank.start),.rs .reach x.reaches,.rs .farm x.farms,.rs .crop x.crops,.rs .right x.rights,.rs .duty x.duties,.rs .well x.wells]
 | .ratio,x=>[.v (.int .i64 x.n),.v (.int .i64 x.d)]
 | .ratio2,x=>[.v (.int .i64 x.1.n),.v (.int .i64 x.1.d),.v (.int .i64 x.2.n),.v (.int .i64 x.2.d)]
 | .range,x=>[.v (.int .i64 x.lo),.v (.int .i64 x.hi)]
 | .str,x=>[.v (.string x)]
def aa:Tag->Nat
 | .reach=>12
 | .farm=>4
 | .crop=>2
 | .right=>10
 | .duty=>4
 | .int=>1
 | .well=>4
 | .part=>3
 | .deed=>9
 | .holding=>4
 | .bool=>1
 | .registerTitle=>2
 | .fnc=>1
 | .tank=>2
 | .district=>10
 | .ratio=>2
 | .ratio2=>4
 | .range=>2
 | .str=>1
theorem aQ (k:Tag)(x:k.T):(cellsOf k x).length=aa k:=by cases k <;>rfl
def di:(k:Tag)->k.T
 | .reach=>(default:Reach)
 | .farm=>(default:Farm)
 | .crop=>(default:Crop)
 | .right=>(default:Right)
 | .duty=>(default:Duty)
 | .int=>(0:Int)
 | .well=>(default:Well)
 | .part=>(default:Part)
 | .deed=>(default:Deed)
 | .holding=>(default:Holding)
 | .bool=>false
 | .registerTitle=>(default:RegisterTitle)
 | .fnc=>(default:Option Nat)
 | .tank=>(default:Tank)
 | .district=>(default:District)
 | .ratio=>(default:Ratio)
 | .ratio2=>(default:Ratio×Ratio)
 | .range=>(default:Range)
 | .str=>(ByteArray.mk #[])
inductive Kd where
 |s|b|n (k:IntKind) |r (k:Tag) |m (k k2:Tag) |f
def iH:Tag->Bool
 | .reach=>true
 | .farm=>true
 | .crop=>true
 | .right=>true
 | .duty=>true
 | .int=>false
 | .well=>true
 | .part=>true
 | .deed=>true
 | .holding=>true
 | .bool=>false
 | .registerTitle=>true
 | .fnc=>false
 | .tank=>true
 | .district=>true
 | .ratio=>true
 | .ratio2=>true
 | .range=>true
 | .str=>false
def xo:(k:Tag)->List (List k.T)->SV
 |_,_=>.any
def b9:Tag->List Kd
 | .reach=>[.s,.n .i64,.n .i64,.n .i64,.n .i64,.n .i64,.n .i64,.n .i64,.n .i64,.n .i64,.n .i64,.n .i64]
 | .farm=>[.s,.n .i64,.n .i64,.n .i64]
 | .crop=>[.s,.n .i64]
 | .right=>[.s,.n .i64,.n .i64,.n .i64,.n .i64,.n .i64,.n .i64,.n .i64,.n .i64,.n .i64]
 | .duty=>[.s,.n .i64,.n .i64,.n .i64]
 | .int=>[.n .i64]
 | .well=>[.n .i64,.n .i64,.n .i64,.r .int]
 | .part=>[.n .i64,.n .i64,.n .i64]
 | .deed=>[.n .i64,.n .i64,.n .i64,.n .i64,.n .i64,.r .part,.n .i64,.n .i64,.n .i64]
 | .holding=>[.n .i64,.n .i64,.n .i64,.n .i64]
 | .bool=>[.b]
 | .registerTitle=>[.n .i64,.n .i64]
 | .fnc=>[.f]
 | .tank=>[.n .i64,.n .i64]
 | .district=>[.s,.n .i64,.n .i64,.n .i64,.r .reach,.r .farm,.r .crop,.r .right,.r .duty,.r .well]
 | .ratio=>[.n .i64,.n .i64]
 | .ratio2=>[.n .i64,.n .i64,.n .i64,.n .i64]
 | .range=>[.n .i64,.n .i64]
 | .str=>[.s]
def toI:SV->Int| .v (.int _ n) =>n|_=>0
def toB:SV->Bool| .v (.bool b) =>b|_=>false
def toS:SV->ByteArray| .v (.string s) =>s|_=>ByteArray.mk #[]
def toF:SV->Option Nat| .fn f [] [] =>some f|_=>none
def qq:SV->List Reach| .rs .reach l=>l|_=>[]
def sg:SV->List Farm| .rs .farm l=>l|_=>[]
def sh:SV->List Crop| .rs .crop l=>l|_=>[]
def qr:SV->List Right| .rs .right l=>l|_=>[]
def sj:SV->List Duty| .rs .duty l=>l|_=>[]
def vV:SV->List Int| .rs .int l=>l|_=>[]
def sn:SV->List Well| .rs .well l=>l|_=>[]
def so:SV->List Part| .rs .part l=>l|_=>[]
def xp:SV->List Deed| .rs .deed l=>l|_=>[]
def re:SV->List Holding| .rs .holding l=>l|_=>[]
def xq:SV->List Bool| .rs .bool l=>l|_=>[]
def ld:SV->List RegisterTitle| .rs .registerTitle l=>l|_=>[]
def Az:SV->List (Option Nat) | .rs .fnc l=>l|_=>[]
def xr:SV->List Tank| .rs .tank l=>l|_=>[]
def o_:SV->List District| .rs .district l=>l|_=>[]
def uJ:SV->List Ratio| .rs .ratio l=>l|_=>[]
def sp:SV->List (Ratio×Ratio) | .rs .ratio2 l=>l|_=>[]
def uK:SV->List Range| .rs .range l=>l|_=>[]
def AA:SV->List ByteArray| .rs .str l=>l|_=>[]
def at0:List SV->Nat->SV
 | [],_=>.any
 |x::_,0=>x
 |_::r,n+1=>at0 r n
def mkE:(k:Tag)->List SV->k.T
 | .reach,l=>(⟨toS (at0 l 0),toI (at0 l 1),toI (at0 l 2),toI (at0 l 3),toI (at0 l 4),toI (at0 l 5),⟨toI (at0 l 6),toI (at0 l 7)⟩,(⟨toI (at0 l 8),toI (at0 l 9)⟩,⟨toI (at0 l 10),toI (at0 l 11)⟩)⟩:Reach)
 | .farm,l=>(⟨toS (at0 l 0),toI (at0 l 1),toI (at0 l 2),toI (at0 l 3)⟩:Farm)
 | .crop,l=>(⟨toS (at0 l 0),toI (at0 l 1)⟩:Crop)
 | .right,l=>(⟨toS (at0 l 0),toI (at0 l 1),toI (at0 l 2),toI (at0 l 3),toI (at0 l 4),toI (at0 l 5),toI (at0 l 6),toI (at0 l 7),toI (at0 l 8),toI (at0 l 9)⟩:Right)
 | .duty,l=>(⟨toS (at0 l 0),toI (at0 l 1),toI (at0 l 2),toI (at0 l 3)⟩:Duty)
 | .int,l=>(toI (at0 l 0):Int)
 | .well,l=>(⟨toI (at0 l 0),toI (at0 l 1),toI (at0 l 2),vV (at0 l 3)⟩:Well)
 | .part,l=>(⟨toI (at0 l 0),⟨toI (at0 l 1),toI (at0 l 2)⟩⟩:Part)
 | .deed,l=>(⟨toI (at0 l 0),toI (at0 l 1),toI (at0 l 2),toI (at0 l 3),toI (at0 l 4),so (at0 l 5),toI (at0 l 6),toI (at0 l 7),toI (at0 l 8)⟩:Deed)
 | .holding,l=>(⟨toI (at0 l 0),toI (at0 l 1),toI (at0 l 2),toI (at0 l 3)⟩:Holding)
 | .bool,l=>(toB (at0 l 0):Bool)
 | .registerTitle,l=>(⟨toI (at0 l 0),toI (at0 l 1)⟩:RegisterTitle)
 | .fnc,l=>(toF (at0 l 0):Option Nat)
 | .tank,l=>(⟨toI (at0 l 0),toI (at0 l 1)⟩:Tank)
 | .district,l=>(⟨toS (at0 l 0),toI (at0 l 1),⟨toI (at0 l 2),toI (at0 l 3)⟩,qq (at0 l 4),sg (at0 l 5),sh (at0 l 6),qr (at0 l 7),sj (at0 l 8),sn (at0 l 9)⟩:District)
 | .ratio,l=>(⟨toI (at0 l 0),toI (at0 l 1)⟩:Ratio)
 | .ratio2,l=>((⟨toI (at0 l 0),toI (at0 l 1)⟩,⟨toI (at0 l 2),toI (at0 l 3)⟩):Ratio×Ratio)
 | .range,l=>(⟨toI (at0 l 0),toI (at0 l 1)⟩:Range)
 | .str,l=>(toS (at0 l 0):ByteArray)
def kN:IntKind->Nat
 | .i8=>0| .i16=>1| .i32=>2| .i64=>3| .u8=>4| .u16=>5| .u32=>6| .u64=>7
def fit:Kd->SV->Bool
 | .s,.v (.string _) =>true
 | .b,.v (.bool _) =>true
 | .n k,.v (.int k' _) =>Nat.beq (kN k) (kN k')
 | .r k,.rs k' _=>Nat.beq (o9 k) (o9 k')
 | .m k k2,.rm k' k2' _=>Nat.beq (o9 k) (o9 k')&&Nat.beq (o9 k2) (o9 k2')
 | .f,.fn _ [] [] =>true
 | .f,.v .nilFunc=>true
 |_,_=>false
def lF:List Kd->List SV->Bool
 | [],[] =>true
 |k::ks,x::xs=>fit k x&&lF ks xs
 |_,_=>false
def xu:Kd->SV->SV
 | .r k,.v (.slice none 0 0) =>.rs k []
 | .r k,.e0=>.rs k []
 | .m k k2,.v (.map none) =>.rm k k2 []
 |_,s=>s
def oc:List Kd->List SV->List SV
 |k::ks,s::r=>xu k s::oc ks r
 |_,l=>l
def lG (k:Tag)(l:List SV):Option k.T:=bif lF (b9 k) l then some (mkE k l)else none
def iI (k:Tag)(l:List SV):Option k.T:=lG k (oc (b9 k) l)
inductive Pk where
 |st (k:Tag)
 |sl (k:Tag)
 |mp (k k2:Tag)
 |o
def qs:Pk->SV->SV
 | .st k,.agg l=>.agg (oc (b9 k) l)
 | .sl k,s=>xu (.r k) s
 | .mp k k2,s=>xu (.m k k2) s
 |_,s=>s
def dJ:List Pk->List SV->List SV
 |p::ps,s::r=>qs p s::dJ ps r
 |_,l=>l
structure TI where
 size:Nat
 bytes:Nat
 agg:Bool
 zero:List SV
 fields:List (Nat×Nat×Bool)
 elem:Nat
 len:Nat
 isSlice:Bool
 isArr:Bool
 tag:Option Tag
 int:Option IntKind
 iface:Bool
 eq:List Nat
 mkt:Option Tag
 mvt:Option Tag
 sc:Nat
def svs (v:Value):List SV:=v.cells.toList.map .v
def g8 (P:Program)(t:TypeId):Nat:=match P.info? t with|some i=>i.size|none=>0
def fJ (P:Program)(t:TypeId):Bool:=match P.underlying t with|some (.struct _) =>true|some (.array _ _) =>true|_=>false
def br:Option TypeDesc->Nat
 |some (.int _) =>1
 |some .string=>2
 |some .bool=>3
 |_=>0
def eqFields (P:Program):Nat->List Field->Bool
 |_,[] =>true
 |n,f::r=>(f.name != "_")&&Nat.beq f.offset n&&Nat.blt 0 (br (P.underlying f.type))&&eqFields P (n+1) r
def iq (P:Program)(t:TypeId)(d:TypeDesc):List Nat:=match d with
 | .struct fs=>bif !P.stoodInHeld t&& !P.eqGuardType P.depth t&&eqFields P 0 fs.toList then fs.toList.map fun f=>br (P.underlying f.type)else []
 | .array n e=>bif !P.eqGuardType P.depth t&&Nat.blt 0 (br (P.underlying e))&&Nat.beq (g8 P e) 1 then List.replicate n (br (P.underlying e))else []
 |_=>[]
def g9 (P:Program)(t:TypeId):List Nat:=match P.underlying t with
 |some (.struct gs) =>bif !P.stoodInHeld t&&eqFields P 0 gs.toList&&Nat.beq (g8 P t) gs.size&&(P.info? t).isSome then gs.toList.map fun f=>br (P.underlying f.type)else []
 |d=>bif Nat.blt 0 (br d)then [br d]else []
def lH (P:Program):Nat->List Field->Bool
 |_,[] =>true
 |n,f::r=>(f.name != "_")&&Nat.beq f.offset n&&Nat.blt 0 (g9 P f.type).length&&lH P (n+(g9 P f.type).length) r
def vW (P:Program)(t:TypeId)(d:TypeDesc):List Nat:=match d with
 | .struct fs=>bif !P.stoodInHeld t&& !P.eqGuardType P.depth t&&lH P 0 fs.toList then fs.toList.flatMap fun f=>g9 P f.type else []
 |_=>[]
def CU (P:Program)(t:TypeId)(d:TypeDesc):List Nat:=match iq P t d with
 | [] =>vW P t d
 |l=>l
def AB:SV->SV->Bool
 | .v (.int k a),.v (.int k' b) =>Nat.beq (kN k) (kN k')&&(match a,b with| .ofNat 0,.ofNat 0=>true|_,_=>false)
 | .v (.string a),.v (.string b) =>Nat.beq a.size 0&&Nat.beq b.size 0
 | .v (.bool false),.v (.bool false) =>true
 | .rs _ [],.v (.slice none 0 0) =>true
 | .rm _ _ [],.v (.map none) =>true
 | .v .nilFunc,.v .nilFunc=>true
 |_,_=>false
def lC:List SV->List SV->Bool
 | [],[] =>true
 |a::r,b::s=>AB a b&&lC r s
 |_,_=>false
def qt:Bool->Bool->Bool
 |true,true=>true
 |false,false=>true
 |_,_=>false
def sq:Value->Bool
 | .agg _=>true
 |_=>false
def qu (P:Program)(t:TypeId)(i:TypeInfo)(k:Tag):Bool:=
 (match i.zero with|some z=>qt (sq z) (iH k) |none=>false)&&Nat.beq i.size (aa k)&&Nat.ble 1 i.bytes&&lC (cellsOf k (di k)) (match i.zero with|some z=>svs z|none=>[])&&qt (fJ P t) (iH k)
def oo (P:Program)(t:TypeId)(i:TypeInfo):Option Tag:=match Tag.ofName i.str with|some k=>bif qu P t i k then some k else none|none=>none
def xv (P:Program)(t:TypeId):Option Tag:=match P.info? t with|some i=>oo P t i|none=>none
def eo:Kd->Nat
 | .n _=>1
 | .s=>2
 | .b=>3
 |_=>0
def sr:List Nat->List Nat->Bool
 | [],[] =>true
 |a::r,b::s=>Nat.beq a b&&sr r s
 |_,_=>false
def y4 (P:Program)(t:TypeId)(k:Tag):Bool:=match P.underlying t with
 |some d=>bif fJ P t then sr ((b9 k).map eo) (iq P t d)&&Nat.blt 0 (b9 k).length else sr ((b9 k).map eo) [br (some d)]&&Nat.blt 0 (br (some d))
 |none=>false
def xw (P:Program)(t:TypeId):Option Tag:=match xv P t with|some k=>bif y4 P t k then some k else none|none=>none
def ci (P:Program)(t:TypeId)(i:TypeInfo)(d:TypeDesc):TI:=
 {size:=i.size
  bytes:=i.bytes
  agg:=fJ P t
  zero:=match i.zero with|some z=>svs z|none=>[]
  fields:=match d with| .struct fs=>fs.toList.map fun f=>(f.offset,g8 P f.type,fJ P f.type) |_=>[]
  elem:=match d with| .slice e=>e| .array _ e=>e| .map _ e=>e|_=>0
  len:=match d with| .array n _=>n|_=>0
  isSlice:=match d with| .slice _=>true|_=>false
  isArr:=match d with| .array _ _=>true|_=>false
  tag:=oo P t i
  int:=match d with| .int k=>some k|_=>none
  iface:=match d with| .interface _=>true|_=>false
  eq:=CU P t d
  mkt:=match d with| .map k _=>xw P k|_=>none
  mvt:=match d with| .map _ e=>xv P e|_=>none
  sc:=br (some d)}
def mY (P:Program)(d:TypeDesc):Bool:=match d with| .struct fs=>fs.toList.all fun f=>(P.info? f.type).isSome&&(P.underlying f.type).isSome|_=>true
def cr (P:Program)(t:TypeId):Option TI:=
 match P.info? t,P.underlying t with
 |some i,some d=>bif i.zero.isSome&&mY P d then some (ci P t i d)else none
 |_,_=>none
abbrev Tis:=TypeId->Option TI
def Tis.ok (ts:Tis)(P:Program):Prop:= ∀ t i,ts t=some i->cr P t=some i
inductive Ob where
 |cells (l:List SV)
 |dead
 |row (k:Tag) (l:List k.T)
 |mp (kk vk:Tag) (l:List (kk.T×vk.T)) (pend:Option (Nat×Option kk.T))
 |grid (k:Tag) (l:List (List k.T))
 |ab (r:Res)
 |raw (o:Obj)
 |mi (mid:Option Nat) (n:Nat) (left:List Nat) (cur:Option Nat)
 |fwd (n:Option Nat)
 |fz (k:Tag) (l:List k.T)
instance:Inhabited Ob:=⟨.dead⟩
structure St where
 t:List (Nat×SV)
 h:List Ob
 deriving Inhabited
def lk (t:Nat):List (Nat×SV)->SV
 | [] =>.any
 |(a,s)::r=>bif Nat.beq a t then s else lk t r
def St.put (st:St)(d:Option Nat)(s:SV):St:=match d with|some d=>⟨(d,s)::st.t,st.h⟩ |none=>st
def ae:List Ob->Nat->Ob
 | [],_=>.dead
 |o::_,0=>o
 |_::r,n+1=>ae r n
def bf:List Ob->Nat->Ob->List Ob
 | [],0,x=>[x]
 | [],n+1,x=>.dead::bf [] n x
 |_::r,0,x=>x::r
 |o::r,n+1,x=>o::bf r n x
abbrev Up:=Nat×Ob
def noE {κ:Type}:Option (Nat×Option κ)->Bool
 |some (_,some _) =>false
 |_=>true
def aD (h:List Ob):List Up->List Ob
 | [] =>h
 |(id,o)::r=>aD (bf h id o) r
inductive Con where
 |det (pre:Prop) (s:SV)
 |rel (α:Type) (pre:Prop) (post:α->Prop) (out:α->SV)
 |may (ok:Bool) (s:SV) (x:Value)
inductive Rs where
 |ret (s:SV) (h:List Ob)
 |pan (x:Value) (h:List Ob)
structure HCon where
 α:Type
 pre:Prop
 post:α->Prop
 res:α->Rs
structure YCon where
 α:Type
 pre:Prop
 post:α->Prop
 res:α->Bool×Res
structure Cons where
 p:FuncId->List SV->Option Con
 o:FuncId->List SV->List Ob->Option HCon
 y:List SV->Res->Option YCon
def jf:SV->Option (List SV)
 | .agg l=>some l
 | .v (.agg cs) =>some (cs.toList.map .v)
 | .v (.tuple _) =>none
 | .any=>none
 | .tup _=>none
 | .gd .. =>none
 | .nw .. =>none
 | .nm .. =>none
 | .ng .. =>none
 |s=>some [s]
def nth {α:Type}:List α->Nat->Option α
 | [],_=>none
 |x::_,0=>some x
 |_::r,n+1=>nth r n
def cut:Nat->List SV->List SV
 |0,_=>[]
 |_+1,[] =>[]
 |n+1,x::r=>x::cut n r
def xx:Nat->List SV->List SV
 |0,l=>l
 |_+1,[] =>[]
 |n+1,_::r=>xx n r
def sz:List SV->Nat
 | [] =>0
 |_::r=>sz r+1
def jY (agg:Bool)(size:Nat)(cells:List SV)(off:Nat):Option SV:=
 bif agg then(bif Nat.ble (off+size) (sz cells)then some (.agg (cut size (xx off cells)))else none)
 else nth cells off
def su:List SV->Nat->SV->List SV
 | [],_,_=>[]
 |_::r,0,s=>s::r
 |x::r,n+1,s=>x::su r n s
def setCells (cells:List SV)(off:Nat):List SV->List SV
 | [] =>cells
 |x::xs=>setCells (su cells off x) (off+1) xs
section
variable {κ υ:Type}
def eI [DecidableEq κ]:List (κ×υ)->κ->Option υ
 | [],_=>none
 |(a,b)::r,x=>if x=a then some b else eI r x
def pa [DecidableEq κ]:List (κ×υ)->κ->υ->List (κ×υ)
 | [],x,y=>[(x,y)]
 |(a,b)::r,x,y=>if x=a then(x,y)::r else(a,b)::pa r x y
def y5 [DecidableEq κ]:List (κ×υ)->κ->Nat
 | [],_=>0
 |(a,_)::r,x=>if x=a then 0 else y5 r x+1
end
def dG (kk vk:Tag)(l:List (kk.T×vk.T))(x:kk.T):vk.T:=(eI l x).getD (di vk)
def mZ (kk vk:Tag)(l:List (kk.T×vk.T))(x:kk.T):Bool:=(eI l x).isSome
def fe (kk vk:Tag)(l:List (kk.T×vk.T))(x:kk.T)(y:vk.T):List (kk.T×vk.T):=pa l x y
def qv {κ υ:Type}[DecidableEq κ]:List (κ×υ)->κ->List (κ×υ)
 | [],_=>[]
 |(a,b)::r,x=>if x=a then r else(a,b)::qv r x
def kJ (kk vk:Tag)(l:List (kk.T×vk.T))(x:kk.T):List (kk.T×vk.T):=qv l x
def kf (kk vk:Tag)(l:List (kk.T×vk.T))(x:kk.T):Nat:=y5 l x
def MV (kk vk:Tag)(l:List (kk.T×vk.T))(x:kk.T):Option kk.T:=if(eI l x).isSome then none else some x
def svT (k:Tag)(x:k.T):SV:=bif iH k then .agg (cellsOf k x)else(nth (cellsOf k x) 0).getD .any
def rf (k:Tag):Option (List SV)->Option k.T
 |some l=>iI k l
 |none=>none
def pb:SV->Option (List SV)
 | .agg l=>some l
 | .v (.agg cs) =>some (cs.toList.map .v)
 |_=>none
def qw:SV->Option (List SV)
 | .agg _=>none
 | .v (.agg _) =>none
 |s=>jf s
def unT (k:Tag)(s:SV):Option k.T:=bif iH k then rf k (pb s)else rf k (qw s)
inductive OR where
 |val (s:SV)
 |chk (c:Prop) (s:SV)
 |asm (c:Prop) (s:SV)
 |newr (s:SV)
 |eff (c a:Prop) (ups:List Up) (s:SV)
 |call (f:FuncId) (args:List SV)
 |yld (id:Nat) (args:List SV)
 |nxt (id:Nat)
 |amb (p:Bool->Prop)
 |pan (x:Value)
 |bad
structure Cx where
 ts:Tis
 ops:List Oper
 g:Option (Nat×Bool)
 st:St
 nx:Nat
def jx (ops:List Oper):Nat->Option (Nat×Bool)->Nat->Bool->Bool
 |0,_,_,_=>false
 |_+1,none,_,_=>false
 |n+1,some (j,b),j',b'=>bif Nat.beq j j'&&qt b b' then true else jx ops n ((nth ops j).bind (·.guard)) j' b'
def aO (ops:List Oper)(g:Option (Nat×Bool)):SV->SV
 | .gd j b s=>bif jx ops ops.length g j b then s else .any
 | .any=>.any
 | .v x=>.v x
 | .ptr a b=>.ptr a b
 | .os a=>.os a
 | .e0=>.e0
 | .rc a b=>.rc a b
 | .rp a b c d=>.rp a b c d
 | .gr a b=>.gr a b
 | .gp a b c d e=>.gp a b c d e
 | .ep a b=>.ep a b
 | .rs k l=>.rs k l
 | .ls l=>.ls l
 | .rm k k2 l=>.rm k k2 l
 | .agg l=>.agg l
 | .tup l=>.tup l
 | .fn f l m=>.fn f l m
 | .nw k l=>.nw k l
 | .nm k k2 l=>.nm k k2 l
 | .ng k l=>.ng k l
 | .vw a b c d=>.vw a b c d
def raw (t:List (Nat×SV)):Operand->SV
 | .tmp n=>lk n t
 | .const x=>.v x
 | .func f=>.fn f [] []
 | .global _=>.any
def val (cx:Cx)(x:Operand):SV:=aO cx.ops cx.g (raw cx.st.t x)
def bT (cx:Cx):List Operand->List SV
 | [] =>[]
 |x::r=>val cx x::bT cx r
def iG (cx:Cx):Option Operand->Option SV
 |some x=>some (val cx x)
 |none=>none
def dP (cx:Cx):List (Nat×Operand)->List (Nat×SV)
 | [] =>[]
 |(i,x)::r=>(i,val cx x)::dP cx r
def qx:Operand->Bool
 | .const (.bool true) =>true
 |_=>false
def nL:Operand->Bool
 | .const (.bool false) =>true
 |_=>false
def uL (ops:List Oper)(j:Nat)(c:Operand):Bool:=
 match (nth ops j).bind (·.dst),c with
 |some d,.tmp t=>Nat.beq d t
 |_,_=>false
def fQ (ops:List Oper)(g:Option (Nat×Bool))(c:Operand)(want:Bool):SV->SV
 | .gd j b s=>bif qt b want&&uL ops j c then s else aO ops g (.gd j b s)
 |s=>aO ops g s
def sw (a b:Operand):SV->SV->SV->OR
 | .v (.bool x),.v (.bool y),.v (.bool z) =>bif qx a then .val (.b (x||z))else bif nL b then .val (.b (x&&y))else .bad
 | .v (.bool x),.any,.v (.bool z) =>.chk (x=false) (.b z)
 | .v (.bool x),.v (.bool y),.any=>.chk (x=true) (.b y)
 |_,_,_=>.bad
def gD (k:IntKind)(a b:Int):Int:=a.fdiv (2 ^ min b.toNat k.bits)
def MW (k:IntKind)(a b:Int):Int:=k.wrap (a*2 ^ min b.toNat k.bits)
def MX (k:IntKind)(a b:Int):Int:=k.wrap ((BitVec.ofInt k.bits a&&&BitVec.ofInt k.bits b).toNat:Int)
def orI (k:IntKind)(a b:Int):Int:=k.wrap ((BitVec.ofInt k.bits a|||BitVec.ofInt k.bits b).toNat:Int)
def MY (k:IntKind)(a b:Int):Int:=k.wrap ((BitVec.ofInt k.bits a ^^^ BitVec.ofInt k.bits b).toNat:Int)
def AC (k:IntKind)(a b:Int):Int:=k.wrap ((BitVec.ofInt k.bits a&&& ~~~(BitVec.ofInt k.bits b)).toNat:Int)
def lI (op:BinOp)(k:IntKind)(a b:Int):OR:=
 match op with
 | .add=>.val (.v (.int k (k.wrap (a+b))))
 | .sub=>.val (.v (.int k (k.wrap (a - b))))
 | .mul=>.val (.v (.int k (k.wrap (a*b))))
 | .quo=>.chk (b≠0) (.v (.int k (k.wrap (a.tdiv b))))
 | .rem=>.chk (b≠0) (.v (.int k (a.tmod b)))
 | .shr=>.chk (0<=b) (.v (.int k (gD k a b)))
 | .shl=>.chk (0<=b) (.v (.int k (MW k a b)))
 | .and=>.val (.v (.int k (MX k a b)))
 | .or=>.val (.v (.int k (orI k a b)))
 | .xor=>.val (.v (.int k (MY k a b)))
 | .andNot=>.val (.v (.int k (AC k a b)))
 | .eql=>.val (.v (.bool (a==b)))
 | .neq=>.val (.v (.bool (a !=b)))
 | .lss=>.val (.v (.bool (decide (a<b))))
 | .leq=>.val (.v (.bool (decide (a<=b))))
 | .gtr=>.val (.v (.bool (decide (a > b))))
 | .geq=>.val (.v (.bool (decide (a>=b))))
def AD (op:BinOp)(a b:ByteArray):OR:=
 match op with
 | .eql=>.val (.v (.bool (a==b)))
 | .neq=>.val (.v (.bool (a !=b)))
 |_=>.bad
def vX (op:BinOp)(a b:Bool):OR:=
 match op with
 | .eql=>.val (.v (.bool (a==b)))
 | .neq=>.val (.v (.bool (a !=b)))
 |_=>.bad
def eqV (c:Nat):SV->SV->Option Bool
 | .v (.int k a),.v (.int k' b) =>bif Nat.beq c 1&&Nat.beq (kN k) (kN k')then some (a==b)else none
 | .v (.string a),.v (.string b) =>bif Nat.beq c 2 then some (a==b)else none
 | .v (.bool a),.v (.bool b) =>bif Nat.beq c 3 then some (a==b)else none
 |_,_=>none
def oI:Option Bool->Option Bool->Option Bool
 |some a,some b=>some (a&&b)
 |_,_=>none
def eqL:List Nat->List SV->List SV->Option Bool
 | [],[],[] =>some true
 |c::cs,x::r,y::s=>oI (eqV c x y) (eqL cs r s)
 |_,_,_=>none
def eqO (op:BinOp):Option Bool->OR
 |some b=>match op with| .eql=>.val (.v (.bool b)) | .neq=>.val (.v (.bool !b)) |_=>.bad
 |none=>.bad
def IL (op:BinOp)(l m:List SV):List Nat->OR
 | [] =>.bad
 |c::cs=>eqO op (eqL (c::cs) l m)
def an (ts:Tis)(t:TypeId)(k:TI->OR):OR:=match ts t with|some i=>k i|none=>.bad
def eqT (op:BinOp)(l m:List SV)(ti:TI):OR:=IL op l m ti.eq
def pc (op:BinOp)(k k':IntKind):Bool:=
 match op with
 | .shl=>true
 | .shr=>true
 |_=>Nat.beq (kN k) (kN k')
def IM (op:BinOp):SV->SV->OR
 | .v (.int k a),.v (.int k' b) =>bif pc op k k' then lI op k a b else .bad
 |_,_=>.bad
def FI (op:BinOp)(p:Prop):OR:=
 match op with
 | .eql=>.amb fun b=>b=true->p
 | .neq=>.amb fun b=>b=false->p
 |_=>.bad
def eqS (op:BinOp)(ti:TI):SV->SV->OR
 | .rs _ l,.v (.slice none 0 0) =>bif ti.isSlice then FI op (l=[])else .bad
 | .v (.string a),.v (.string b) =>bif Nat.beq ti.sc 2 then AD op a b else .bad
 | .v (.bool a),.v (.bool b) =>bif Nat.beq ti.sc 3 then vX op a b else .bad
 | .agg l,.agg m=>eqT op l m ti
 |_,_=>.bad
def vY (ts:Tis)(op:BinOp)(t:TypeId):SV->SV->OR
 | .v (.int k a),.v (.int k' b) =>IM op (.v (.int k a)) (.v (.int k' b))
 |a,b=>an ts t fun ti=>eqS op ti a b
def unS:UnOp->SV->OR
 | .not,.v (.bool b) =>.val (.v (.bool !b))
 | .neg,.v (.int k n) =>.val (.v (.int k (k.wrap (0 - n))))
 |_,_=>.bad
def lJ:Option SV->OR
 |some s=>.val s
 |none=>.bad
def sA (agg:Bool)(size szt:Nat)(id:Nat)(i:Int)(off:Nat):Ob->OR
 | .row k l=>bif Nat.beq szt (aa k)then lJ (jY agg size (cellsOf k (l.getD i.toNat (di k))) off)else .bad
 | .grid _ _=>bif Nat.beq szt 1&&Nat.beq off 0&& !agg then .val (.gr id i)else .bad
 |_=>.bad
def qy (agg:Bool)(size szt:Nat)(i j:Int)(off:Nat):Ob->OR
 | .grid k l=>bif Nat.beq szt (aa k)then lJ (jY agg size (cellsOf k ((l.getD i.toNat []).getD j.toNat (di k))) off)else .bad
 |_=>.bad
def pd (agg:Bool)(size off:Nat):Ob->OR
 | .cells l=>lJ (jY agg size l off)
 |_=>.bad
def jE (ti:TI)(h:List Ob):SV->OR
 | .ptr id off=>pd ti.agg ti.size off (ae h id)
 | .ep l off=>lJ (jY ti.agg ti.size l off)
 | .rp s id i off=>sA ti.agg ti.size s id i off (ae h id)
 | .gp s id i j off=>qy ti.agg ti.size s i j off (ae h id)
 |_=>.bad
def pe (n:Nat):SV->OR
 | .ptr id off=>.val (.ptr id (off+n))
 | .ep l off=>.val (.ep l (off+n))
 | .rp s id i off=>.val (.rp s id i (off+n))
 | .gp s id i j off=>.val (.gp s id i j (off+n))
 |_=>.bad
def sB (esz id:Nat)(i:Int):Ob->OR
 | .row k l=>bif Nat.beq esz (aa k)then .chk (0<=i/\i< (l.length:Int)) (.rp esz id i 0)else .bad
 | .grid _ l=>bif Nat.beq esz 1 then .chk (0<=i/\i< (l.length:Int)) (.rp 1 id i 0)else .bad
 |_=>.bad
def vZ (esz id:Nat)(i j:Int):Ob->OR
 | .grid k l=>bif Nat.beq esz (aa k)then .chk (0<=j/\j< ((l.getD i.toNat []).length:Int)) (.gp esz id i j 0)else .bad
 |_=>.bad
def y6 (i:Int):Option SV->OR
 |some s=>.chk (0<=i) (.ep [s] 0)
 |none=>.bad
def d6 (ti:TI)(esz:Nat)(h:List Ob):SV->SV->OR
 | .rs k l,.v (.int _ i) =>bif ti.isSlice&&Nat.beq esz (aa k)then .chk (0<=i/\i< (l.length:Int)) (.ep (cellsOf k (l.getD i.toNat (di k))) 0)else .bad
 | .os id,.v (.int _ i) =>bif ti.isSlice then sB esz id i (ae h id)else .bad
 | .gr id i,.v (.int _ j) =>bif ti.isSlice then vZ esz id i j (ae h id)else .bad
 | .ls l,.v (.int _ i) =>bif ti.isSlice&&Nat.beq esz 1 then y6 i (nth l i.toNat)else .bad
 | .ptr id off,.v (.int _ i) =>bif ti.isArr then .chk (0<=i/\i< (ti.len:Int)) (.ptr id (off+i.toNat*esz))else .bad
 | .ep l off,.v (.int _ i) =>bif ti.isArr then .chk (0<=i/\i< (ti.len:Int)) (.ep l (off+i.toNat*esz))else .bad
 | .rp s id i off,.v (.int _ j) =>bif ti.isArr then .chk (0<=j/\j< (ti.len:Int)) (.rp s id i (off+j.toNat*esz))else .bad
 |_,_=>.bad
def gi (place:Nat->Option (Nat×Nat))(cells:List SV):List (Nat×SV)->Option (List SV)
 | [] =>some cells
 |(i,v)::rest=>
  match place i,jf v with
  |some (off,size),some vs=>bif Nat.beq (sz vs) size&&Nat.ble (off+size) (sz cells)then gi place (setCells cells off vs) rest else none
  |_,_=>none
def kg (k:Tag)(size:Nat):Nat->List SV->Option (List k.T)
 |0,_=>some []
 |n+1,cells=>match iI k (cut size cells),kg k size n (xx size cells)with
  |some x,some xs=>some (x::xs)
  |_,_=>none
def rN (n:Nat)(z:List SV):List SV:=match n with|0=>[] |n+1=>z++rN n z
def kK (f:Option (Nat×Nat×Bool))(l:Option (List SV)):OR:=
 match f,l with
 |some (o,n,g),some l=>lJ (jY g n l o)
 |_,_=>.bad
def y7:SV->Bool
 | .v (.agg _) =>false
 | .v (.tuple _) =>false
 | .any=>false
 | .agg _=>false
 | .tup _=>false
 | .gd .. =>false
 | .nw .. =>false
 | .nm .. =>false
 | .ng .. =>false
 |_=>true
def mm:List SV->Bool
 | [] =>true
 |x::r=>y7 x&&mm r
def y8 (k:Tag)(id:Nat)(i:Int)(l:List k.T):Option k.T->OR
 |some x=>.eff True True [(id,.row k (l.set i.toNat x))] .any
 |none=>.bad
def v6 (k:Tag)(id:Nat)(i j:Int)(l:List (List k.T)):Option k.T->OR
 |some x=>.eff True True [(id,.grid k (l.set i.toNat ((l.getD i.toNat []).set j.toNat x)))] .any
 |none=>.bad
def y9 (id off:Nat)(vs:List SV):Ob->OR
 | .cells l=>bif Nat.ble (off+sz vs) (sz l)&&mm vs then .eff True True [(id,.cells (setCells l off vs))] .any else .bad
 |_=>.bad
def y_ (s id:Nat)(i:Int)(off:Nat)(vs:List SV):Ob->OR
 | .row k l=>bif Nat.beq s (aa k)&&Nat.ble (off+sz vs) s then y8 k id i l (iI k (setCells (cellsOf k (l.getD i.toNat (di k))) off vs))else .bad
 |_=>.bad
def za (s id:Nat)(i j:Int)(off:Nat)(vs:List SV):Ob->OR
 | .grid k l=>bif Nat.beq s (aa k)&&Nat.ble (off+sz vs) s then v6 k id i j l (iI k (setCells (cellsOf k ((l.getD i.toNat []).getD j.toNat (di k))) off vs))else .bad
 |_=>.bad
def jZ (size:Nat)(h:List Ob):SV->Option (List SV)->OR
 | .ptr id off,some vs=>bif Nat.beq (sz vs) size then y9 id off vs (ae h id)else .bad
 | .rp s id i off,some vs=>bif Nat.beq (sz vs) size then y_ s id i off vs (ae h id)else .bad
 | .gp s id i j off,some vs=>bif Nat.beq (sz vs) size then za s id i j off vs (ae h id)else .bad
 |_,_=>.bad
def v7:Ob->Bool
 | .grid _ _=>true
 |_=>false
def CV (k:Tag)(nx id rid:Nat)(i:Int)(l:List (List k.T)):Option (List k.T)->OR
 |some m=>.eff True True [(id,.dead),(rid,.dead),(nx,.grid k (l.set i.toNat m)),(id,.fwd (some nx))] .any
 |none=>.bad
def zb (k:Tag):Ob->Option (List k.T)
 | .row k' l=>if h:k'=k then some (h▸l)else none
 |_=>none
def sC (nx:Nat)(h:List Ob)(id rid:Nat)(i:Int):Ob->OR
 | .grid k l=>CV k nx id rid i l (zb k (ae h rid))
 |_=>.bad
def j5 (size nx:Nat)(h:List Ob):SV->SV->OR
 | .rp s id i off,.os rid=>bif v7 (ae h id)then(bif Nat.beq size 1&&Nat.beq s 1&&Nat.beq off 0&& !(Nat.beq id rid)then sC nx h id rid i (ae h id)else .bad)else jZ size h (.rp s id i off) (jf (.os rid))
 |a,x=>jZ size h a (jf x)
def CW:SV->OR
 | .ptr id off=>.val (.ptr id off)
 | .ep l off=>.val (.ep l off)
 | .rp a b c d=>.val (.rp a b c d)
 | .gp a b c d e=>.val (.gp a b c d e)
 | .fn f first caps=>.val (.fn f first caps)
 |_=>.bad
def xy:Option IntKind->SV->OR
 |some k,.v (.int _ n) =>.val (.v (.int k (k.wrap n)))
 |_,_=>.bad
def v8 (nx:Nat):Option (List SV)->OR
 |some l=>.eff True True [(nx,.cells l)] (.ptr nx 0)
 |none=>.bad
def zc:Option (List SV)->OR
 |some l=>.val (.agg l)
 |none=>.bad
def CX (k:Tag):Option (List k.T)->OR
 |some xs=>.newr (.rs k xs)
 |none=>.bad
def lsS (n:Nat)(l:List SV):OR:=bif Nat.beq (sz l) n&&mm l then .newr (.ls l)else .bad
def bsT (k:Tag)(ti te:TI)(n:Nat):Option (List SV)->OR
 |some l=>bif Nat.beq te.size (aa k)&&ti.isSlice&&Nat.ble (n*te.size) 16777216&&Nat.beq (sz te.zero) te.size then CX k (kg k te.size n l)else .bad
 |none=>.bad
def bsU (ti te:TI)(n:Nat):Option (List SV)->OR
 |some l=>bif Nat.beq te.size 1&&ti.isSlice&&Nat.ble (n*te.size) 16777216&&Nat.beq (sz te.zero) te.size then lsS n l else .bad
 |none=>.bad
def noG:Option (Nat×Bool)->Bool
 |none=>true
 |some _=>false
def MZ:Op->Bool
 | .call ⟨.value _,_,_⟩ =>true
 |_=>false
def M0:Op->Bool
 | .call ⟨.builtin .append,_,_⟩ =>true
 |_=>false
def CY:List Oper->Bool
 | [] =>false
 |o::r=>MZ o.op||CY r
def AE:List Oper->Bool
 | [] =>false
 |o::r=>M0 o.op||AE r
def M3:Op->Bool
 | .call ⟨.builtin .clear,_,_⟩ =>true
 |_=>false
def CZ:List Oper->Bool
 | [] =>false
 |o::r=>M3 o.op||CZ r
def IN:Op->Bool
 | .slice .. =>true
 |_=>false
def zd:List Oper->Bool
 | [] =>false
 | [o] =>IN o.op
 |_::r=>zd r
def AF:List Oper->List Nat
 | [] =>[]
 |o::r=>bif IN o.op then o.dst.toList++AF r else AF r
def xz (ds:List Nat):List Operand->Bool
 | [] =>false
 | .tmp d::r=>ds.any (Nat.beq d) ||xz ds r
 |_::r=>xz ds r
def C0:Op->List Operand
 | .call ⟨.value _,args,_⟩ =>args.toList
 |_=>[]
def IP (ds:List Nat):List Oper->Bool
 | [] =>false
 |o::r=>xz ds (C0 o.op) ||IP ds r
def xA (ops:List Oper):Bool:=AE ops||CZ ops||zd ops||IP (AF ops) ops
def M4 (ops:List Oper)(g:Option (Nat×Bool)):Option (Nat×Bool):=bif AE ops&&CY ops then some (0,true)else g
def IQ:List (Nat×Operand)->List Operand
 | [] =>[]
 |(_,x)::r=>x::IQ r
def C2:Op->List Operand
 | .build _ parts=>IQ parts.toList
 |_=>[]
def IR (ds:List Nat):List Oper->Bool
 | [] =>false
 |o::r=>xz ds (C2 o.op) ||IR ds r
def M5 (t:TypeId):Op->Bool
 | .buildSlice t' _ _=>Nat.beq t t'
 |_=>false
def AG (t:TypeId):List Oper->List Nat
 | [] =>[]
 |o::r=>bif M5 t o.op then o.dst.toList++AG t r else AG t r
def H0:Bool:=true
def uk (t:TypeId)(ops:List Oper)(g:Option (Nat×Bool)):Option (Nat×Bool):=bif H0&&IR (AG t ops) ops then some (0,true)else M4 ops g
def M6:SV->Bool
 | .os _=>true
 |_=>false
def osL:List SV->Bool
 | [] =>false
 |s::r=>M6 s||osL r
def osV:SV->Bool
 | .os _=>true
 | .agg l=>osL l
 |_=>false
def C3:List (Nat×SV)->Bool
 | [] =>false
 |(_,s)::r=>osV s||C3 r
def bsG (ti te:TI)(n:Nat)(l:Option (List SV))(os:Bool):Option Tag->OR
 |some k=>bif os then bsU ti te n l else bsT k ti te n l
 |none=>bsU ti te n l
def H1:List Kd->Bool
 | [.f] =>true
 |_=>false
def FJ:Option Tag->Option Tag
 |some k=>bif H1 (b9 k)then none else some k
 |none=>none
def bsS (ti te:TI)(n:Nat)(parts:List (Nat×SV)):OR:=
 bif Nat.beq n 0 then(bif ti.isSlice&&parts.isEmpty then .newr .e0 else .bad)
 else bsG ti te n (gi (fun i=>some (i*te.size,te.size)) (rN n te.zero) parts) (C3 parts) (FJ te.tag)
def one {α:Type}:List α->Bool
 | [_] =>true
 |_=>false
def ul (g:Option (Nat×Bool))(nx:Nat)(te:TI):OR->OR
 | .newr (.rs k l) =>bif(te.agg||one l)&&noG g then .eff True True [(nx,.row k l)] (.os nx)else .newr (.rs k l)
 |r=>r
def C4 (i:Nat):SV->OR
 | .tup l=>lJ (nth l i)
 |_=>.bad
def pf (args:List SV):SV->OR
 | .fn g first caps=>.call g (first++args++caps)
 | .os id=>.yld id args
 |_=>.bad
def bR:Nat:=140737488355328
def C5:Ob->OR
 | .row _ l=>.asm (l.length<=bR) (.i l.length)
 | .grid _ l=>.asm (l.length<=bR) (.i l.length)
 |_=>.bad
def FK (i:Int):Ob->OR
 | .grid _ l=>.asm ((l.getD i.toNat []).length<=bR) (.i (l.getD i.toNat []).length)
 |_=>.bad
def FL (m:Option Tag):Ob->OR
 | .mp _ _ l p=>bif m.isSome&&noE p then .val (.i l.length)else .bad
 |_=>.bad
def lD (ti:TI)(h:List Ob):List SV->OR
 | [.rs _ l] =>bif ti.isSlice then .asm (l.length<=bR) (.i l.length)else .bad
 | [.v (.slice none 0 0)] =>bif ti.isSlice then .val (.i 0)else .bad
 | [.e0] =>bif ti.isSlice then .val (.i 0)else .bad
 | [.rc _ l] =>bif ti.isSlice then .asm (l.length<=bR) (.i l.length)else .bad
 | [.os id] =>bif ti.isSlice then C5 (ae h id)else FL ti.mkt (ae h id)
 | [.gr id i] =>bif ti.isSlice then FK i (ae h id)else .bad
 | [.ls l] =>bif ti.isSlice then .val (.i (sz l))else .bad
 |_=>.bad
def wa:List SV->OR
 | [.v (.int k a),.v (.int _ b)] =>.val (.v (.int k (if b<a then b else a)))
 |_=>.bad
def wb:List SV->OR
 | [.v (.int k a),.v (.int _ b)] =>.val (.v (.int k (if a<b then b else a)))
 |_=>.bad
def C6:SV->OR
 | .v (.iface t y) =>.pan (.iface t y)
 |_=>.bad
def sD (t:TypeId):SV->OR
 | .v (.int k n) =>.val (.v (.iface t (.int k n)))
 |_=>.bad
def xB (fn:Fn)(first caps:List SV):OR:=
 match fn with
 | .func f=>.val (.fn f first caps)
 |_=>.bad
def fY:Nat:=140737488355328
def AH (a:Tag):Option Tag->Bool
 |some b=>Nat.beq (o9 a) (o9 b)
 |none=>false
def oq (k:Tag)(k':Tag)(l:List k'.T):Option (List k.T):=if h:k'=k then some (h▸l)else none
def BG (k:Tag):Ob->Option (List k.T)
 | .row k' l=>oq k k' l
 |_=>none
def FM (k:Tag)(s:Nat)(lo hi:Int):Ob->Option (List k.T)
 | .row k' l=>bif Nat.beq s (aa k')then oq k k' ((l.take hi.toNat).drop lo.toNat)else none
 |_=>none
def la (k:Tag)(h:List Ob):SV->Option (List k.T)
 | .rs k' l=>oq k k' l
 | .v (.slice none 0 0) =>some []
 | .e0=>some []
 | .os id=>BG k (ae h id)
 | .vw s id lo hi=>FM k s lo hi (ae h id)
 |_=>none
def C7 (k:Tag)(nx bytes:Nat)(kill:List Up)(l:List k.T):Option (List k.T)->OR
 |some m=>.eff ((l++m).length*bytes<=fY) ((l++m).length<=bR) (kill++[(nx,.row k (l++m))]) (.os nx)
 |none=>.bad
def mn (te:TI)(nx:Nat)(kill:List Up)(h:List Ob)(src:SV):Ob->OR
 | .row k l=>bif Nat.beq te.size (aa k)&&Nat.beq (sz te.zero) te.size&&Nat.ble 1 te.bytes then C7 k nx te.bytes kill l (la k h src)else .bad
 |_=>.bad
def sE (k:Tag)(nx bytes id2:Nat)(kill:List Up)(l:List (List k.T)):Option (List k.T)->OR
 |some m=>.eff ((l++[m]).length*bytes<=fY) ((l++[m]).length<=bR) (kill++[(id2,.dead),(nx,.grid k (l++[m]))]) (.os nx)
 |none=>.bad
def rg (nx bytes:Nat)(h:List Ob)(id2:Nat)(kill:List Up):Ob->OR
 | .grid k l=>sE k nx bytes id2 kill l (BG k (ae h id2))
 |_=>.bad
def C8 (nx bytes id2:Nat):Ob->OR
 | .row k m=>sE k nx bytes id2 [] [] (some m)
 |_=>.bad
def mo (te:TI)(nx:Nat)(h:List Ob)(src:SV):Option Tag->OR
 |some k=>mn te nx [] h src (.row k [])
 |none=>.bad
def C9 (te:TI)(id:Nat):Ob->OR
 | .row k l=>bif Nat.beq te.size (aa k)&&Nat.beq (sz te.zero) te.size&&Nat.ble 1 te.bytes then .eff ((l++l).length*te.bytes<=fY) ((l++l).length<=bR) [(id,.fz k l)] (.rs k (l++l))else .bad
 |_=>.bad
def AI (k:Tag)(nx bytes:Nat)(l:List k.T):Option (List k.T)->OR
 |some (x::m) =>.eff ((l++x::m).length*bytes<=fY) ((l++x::m).length<=bR) [(nx,.row k (l++x::m))] (.os nx)
 |_=>.bad
def BH (te:TI)(nx:Nat)(h:List Ob)(src:SV)(k:Tag)(l:List k.T):OR:=bif Nat.beq te.size (aa k)&&Nat.beq (sz te.zero) te.size&&Nat.ble 1 te.bytes then AI k nx te.bytes l (la k h src)else .bad
def gE (te:TI)(nx:Nat)(h:List Ob):List SV->OR
 | [.os id,.ls [.os id2]] =>bif Nat.beq te.size 1&&Nat.beq (sz te.zero) 1&&Nat.ble 1 te.bytes&& !(Nat.beq id id2)then rg nx te.bytes h id2 [(id,.dead)] (ae h id)else .bad
 | [.v (.slice none 0 0),.ls [.os id2]] =>bif Nat.beq te.size 1&&Nat.beq (sz te.zero) 1&&Nat.ble 1 te.bytes then C8 nx te.bytes id2 (ae h id2)else .bad
 | [.os id,.os id2] =>bif Nat.beq id id2 then C9 te id (ae h id)else mn te nx [(id,.dead)] h (.os id2) (ae h id)
 | [.os id,src] =>mn te nx [(id,.dead)] h src (ae h id)
 | [.v (.slice none 0 0),src] =>mo te nx h src te.tag
 | [.e0,src] =>mo te nx h src te.tag
 | [.rc k l,src] =>BH te nx h src k l
 |_=>.bad
def sF (k:Tag)(l:List k.T)(lo hi:Int):List k.T:=if hi.toNat<=lo.toNat then l else l.take lo.toNat++List.replicate (hi.toNat - lo.toNat) (di k)++l.drop hi.toNat
def IS (te:TI)(s id:Nat)(lo hi:Int):Ob->OR
 | .row k l=>bif Nat.beq s (aa k)&&AH k te.tag then .eff True True [(id,.row k (sF k l lo hi))] .any else .bad
 |_=>.bad
def oJ (ti te:TI)(h:List Ob):List SV->OR
 | [.vw s id lo hi] =>bif ti.isSlice then IS te s id lo hi (ae h id)else .bad
 |_=>.bad
def mkT (nx:Nat)(n c:Int)(te:TI):Option Tag->OR
 |some k=>.eff (n=c/\0<=n/\n*te.bytes<=fY) (n<=bR) [(nx,.row k (List.replicate n.toNat (di k)))] (.os nx)
 |none=>.bad
def mkS (nx:Nat)(te:TI):SV->SV->OR
 | .v (.int .i64 n),.v (.int .i64 c) =>mkT nx n c te te.tag
 |_,_=>.bad
def C_:List SV->Bool
 | [.v (.slice none 0 0)] =>true
 |_=>false
def FN (nx:Nat)(n c:Int)(te:TI):Option Tag->OR
 |some k=>bif Nat.beq te.size 1&&C_ te.zero&&Nat.ble 1 te.bytes then .eff (n=c/\0<=n/\n*te.bytes<=fY) (n<=bR) [(nx,.grid k (List.replicate n.toNat []))] (.os nx)else .bad
 |none=>.bad
def um (nx:Nat)(te tr:TI):SV->SV->OR
 | .v (.int .i64 n),.v (.int .i64 c) =>FN nx n c te tr.tag
 |_,_=>.bad
def bnd (d:Int):Option SV->Option Int
 |none=>some d
 |some (.v (.int _ n)) =>some n
 |_=>none
def Da (k:Tag)(l:List k.T):Option Int->Option Int->OR
 |some lo,some hi=>.chk (0<=lo/\lo<=hi/\hi<=(l.length:Int)) (.rs k ((l.take hi.toNat).drop lo.toNat))
 |_,_=>.bad
def FO (id nx:Nat)(k:Tag)(l:List k.T):Option Int->Option Int->OR
 |some lo,some hi=>.eff (0<=lo/\lo<=hi/\hi<=(l.length:Int)) True [(id,.dead),(nx,.row k ((l.take hi.toNat).drop lo.toNat))] (.os nx)
 |_,_=>.bad
def Db (esz id nx:Nat)(lo hi:Option SV):Ob->OR
 | .row k l=>bif Nat.beq esz (aa k)then FO id nx k l (bnd 0 lo) (bnd l.length hi)else .bad
 |_=>.bad
def Dc (esz id n:Nat):Option Int->OR
 |some a=>.chk (0<=a/\a<=(n:Int)) (.vw esz id a n)
 |none=>.bad
def AJ (esz id:Nat)(lo:Option SV):Ob->OR
 | .row k l=>bif Nat.beq esz (aa k)then Dc esz id l.length (bnd 0 lo)else .bad
 |_=>.bad
def gR (ti:TI)(esz nx:Nat)(h:List Ob)(lo hi:Option SV)(vq:Bool):SV->OR
 | .rs k l=>bif ti.isSlice&&Nat.beq esz (aa k)then Da k l (bnd 0 lo) (bnd l.length hi)else .bad
 | .os id=>bif ti.isSlice then(bif vq then AJ esz id lo (ae h id)else Db esz id nx lo hi (ae h id))else .bad
 |_=>.bad
def H2 (ti:TI):Option SV->Option SV->SV->SV->OR
 |none,some (.v (.int .i64 0)),.v (.int .i64 0),.v (.slice none 0 0) =>bif ti.isSlice then .val (.v (.slice none 0 0))else .bad
 |_,_,_,_=>.bad
def H3 (ti:TI)(k:Tag)(l:List k.T):Option SV->Option SV->SV->OR
 |none,some (.v (.int .i64 a)),.v (.int .i64 b) =>bif ti.isSlice then .chk (a=(l.length:Int)/\b=(l.length:Int)) (.rc k l)else .bad
 |_,_,_=>.bad
def sG (ti:TI)(lo hi:Option SV)(m:SV):SV->OR
 | .rs k l=>H3 ti k l lo hi m
 |x=>H2 ti lo hi m x
def sH (kk vk:Tag)(l:List (kk.T×vk.T))(ok:Bool):Option kk.T->OR
 |some x=>bif ok then .val (.tup [svT vk (dG kk vk l x),.b (mZ kk vk l x)])else .val (svT vk (dG kk vk l x))
 |none=>.bad
def fG (a:Tag):Option Tag->Bool
 |some b=>Nat.beq (o9 a) (o9 b)
 |none=>false
def uM {α:Type}:Option α->Bool
 |none=>true
 |some _=>false
def xC (ti:TI)(key:SV)(ok:Bool):Ob->OR
 | .mp kk vk l pend=>bif fG kk ti.mkt&&fG vk ti.mvt&&(!ok||noE pend)then sH kk vk l ok (unT kk key)else .bad
 |_=>.bad
def AK (key:SV)(ok:Bool):Option Tag->Option Tag->OR
 |some kk,some vk=>sH kk vk [] ok (unT kk key)
 |_,_=>.bad
def lg (ti:TI)(h:List Ob)(ok:Bool)(key:SV):SV->OR
 | .os id=>xC ti key ok (ae h id)
 | .rm kk vk l=>bif fG kk ti.mkt&&fG vk ti.mvt then sH kk vk l ok (unT kk key)else .bad
 | .v (.map none) =>AK key ok ti.mkt ti.mvt
 |_=>.bad
def IT (id:Nat)(kk vk:Tag)(l:List (kk.T×vk.T)):Option kk.T->Option vk.T->OR
 |some x,some y=>.eff True True [(id,.mp kk vk (fe kk vk l x y) none)] .any
 |_,_=>.bad
def IU (ti:TI)(id:Nat)(key v:SV):Ob->OR
 | .mp kk vk l p=>bif fG kk ti.mkt&&fG vk ti.mvt&&noE p then IT id kk vk l (unT kk key) (unT vk v)else .bad
 |_=>.bad
def rO (ti:TI)(h:List Ob)(key v:SV):SV->OR
 | .os id=>IU ti id key v (ae h id)
 |_=>.bad
def BI (id nx:Nat)(kk vk:Tag)(l:List (kk.T×vk.T)):Option kk.T->OR
 |some x=>.eff True True [(nx,.fwd none),(id,.mp kk vk l (some (nx,some x)))] (.tup [svT vk (dG kk vk l x),.os nx])
 |none=>.bad
def BJ (ti:TI)(id nx:Nat)(key:SV):Ob->OR
 | .mp kk vk l p=>bif fG kk ti.mkt&&fG vk ti.mvt&&noE p then BI id nx kk vk l (unT kk key)else .bad
 |_=>.bad
def od (ti:TI)(nx:Nat)(h:List Ob)(key:SV):SV->OR
 | .os id=>BJ ti id nx key (ae h id)
 |_=>.bad
def IV (id:Nat)(kk vk:Tag)(l:List (kk.T×vk.T))(x:kk.T):Option vk.T->OR
 |some y=>.eff True True [(id,.mp kk vk (fe kk vk l x y) none)] .any
 |none=>.bad
def FP (ti:TI)(id n:Nat)(v:SV):Ob->OR
 | .mp kk vk l (some (n',some x)) =>bif fG kk ti.mkt&&fG vk ti.mvt&&Nat.beq n' n then IV id kk vk l x (unT vk v)else .bad
 |_=>.bad
def wc (ti:TI)(h:List Ob)(v:SV):SV->SV->OR
 | .os id,.os n=>FP ti id n v (ae h id)
 |_,_=>.bad
def IW (id:Nat)(kk vk:Tag)(l:List (kk.T×vk.T)):Option kk.T->OR
 |some x=>.eff True True [(id,.mp kk vk (kJ kk vk l x) none)] .any
 |none=>.bad
def IX (ti:TI)(id:Nat)(key:SV):Ob->OR
 | .mp kk vk l p=>bif fG kk ti.mkt&&fG vk ti.mvt&&noE p then IW id kk vk l (unT kk key)else .bad
 |_=>.bad
def oK (ti:TI)(h:List Ob):List SV->OR
 | [.os id,key] =>IX ti id key (ae h id)
 |_=>.bad
def mmR (nx:Nat):Option Tag->Option Tag->OR
 |some kk,some vk=>.eff True True [(nx,.mp kk vk [] none)] (.os nx)
 |_,_=>.bad
def zsO (z:List SV):OR:=.val (.tup [.agg z,.b false])
def taS (t:TypeId)(ok:Bool)(ti:TI):SV->OR
 | .v (.iface t' y) =>bif ti.iface then .bad else bif Nat.beq t' t then(bif ok then .val (.tup [.v y,.b true])else .val (.v y))else .bad
 |_=>.bad
def FQ (ti:TI)(nx id:Nat):Ob->OR
 | .mp kk vk l p=>bif fG kk ti.mkt&&fG vk ti.mvt&&noE p then .eff True True [(nx,.mi (some id) l.length (List.range l.length) none),(id,.mp kk vk l (some (nx,none)))] (.ptr nx 0)else .bad
 |_=>.bad
def sI (ti:TI)(nx:Nat)(h:List Ob):SV->OR
 | .os id=>FQ ti nx id (ae h id)
 |_=>.bad
def Dd:SV->OR
 | .ptr id 0=>.nxt id
 |_=>.bad
def De (id n j:Nat):Ob->OR
 | .mp kk vk l (some (it,none)) =>bif Nat.beq it id then .chk (n=l.length/\j<n) (.tup [svT kk (l.getD j (di kk,di vk)).1,svT vk (l.getD j (di kk,di vk)).2])else .bad
 |_=>.bad
def AL (h:List Ob)(id:Nat):Ob->OR
 | .mi (some mid) n _ (some j) =>De id n j (ae h mid)
 |_=>.bad
def rh (h:List Ob):SV->OR
 | .ptr id 0=>AL h id (ae h id)
 |_=>.bad
def opS (cx:Cx):Op->OR
 | .move x=>.val (val cx x)
 | .assign x=>.val (val cx x)
 | .pick c a b=>sw a b (val cx c) (fQ cx.ops cx.g c true (raw cx.st.t a)) (fQ cx.ops cx.g c false (raw cx.st.t b))
 | .alloc t=>an cx.ts t fun ti=>v8 cx.nx (some ti.zero)
 | .box _ x=>v8 cx.nx (jf (val cx x))
 | .build t parts=>an cx.ts t fun ti=>
  bif ti.isArr then an cx.ts ti.elem fun te=>zc (gi (fun i=>some (i*te.size,te.size)) ti.zero (dP cx parts.toList))
  else bif ti.agg then zc (gi (fun i=>(nth ti.fields i).map fun f=>(f.1,f.2.1)) ti.zero (dP cx parts.toList))
  else .bad
 | .buildSlice t n parts=>an cx.ts t fun ti=>an cx.ts ti.elem fun te=>ul (uk t cx.ops cx.g) cx.nx te (bsS ti te n (dP cx parts.toList))
 | .load t a=>an cx.ts t fun ti=>jE ti cx.st.h (val cx a)
 | .store t a x=>an cx.ts t fun ti=>j5 ti.size cx.nx cx.st.h (val cx a) (val cx x)
 | .nilCheck x=>CW (val cx x)
 | .binOp op t x y _=>vY cx.ts op t (val cx x) (val cx y)
 | .unOp op _ x=>unS op (val cx x)
 | .convert src dst x=>an cx.ts src fun _=>an cx.ts dst fun ti=>xy ti.int (val cx x)
 | .makeFunc fn first captured=>xB fn (bT cx first.toList) (bT cx captured.toList)
 | .fieldAddr t x f=>an cx.ts t fun ti=>match nth ti.fields f with|some (o,n,_) =>bif Nat.ble 1 n then pe o (val cx x)else .bad|none=>.bad
 | .field t x f=>an cx.ts t fun ti=>kK (nth ti.fields f) (pb (val cx x))
 | .indexAddr t x i=>an cx.ts t fun ti=>an cx.ts ti.elem fun te=>d6 ti te.size cx.st.h (val cx x) (val cx i)
 | .extract x i=>C4 i (val cx x)
 | .panic x=>C6 (val cx x)
 | .makeInterface t x=>an cx.ts t fun ti=>bif ti.iface then .bad else sD t (val cx x)
 | .makeSlice t n c=>an cx.ts t fun ti=>an cx.ts ti.elem fun te=>bif ti.isSlice then(bif te.isSlice then an cx.ts te.elem fun tr=>um cx.nx te tr (val cx n) (val cx c)else mkS cx.nx te (val cx n) (val cx c))else .bad
 | .slice t x lo hi none=>an cx.ts t fun ti=>an cx.ts ti.elem fun te=>gR ti te.size cx.nx cx.st.h (iG cx lo) (iG cx hi) (uM hi&&xA cx.ops) (val cx x)
 | .slice t x lo hi (some m) =>an cx.ts t fun ti=>an cx.ts ti.elem fun _=>sG ti (iG cx lo) (iG cx hi) (val cx m) (val cx x)
 | .makeMap t none=>an cx.ts t fun ti=>mmR cx.nx ti.mkt ti.mvt
 | .lookup t m k ok=>an cx.ts t fun ti=>lg ti cx.st.h ok (val cx k) (val cx m)
 | .mapUpdate t m k v=>an cx.ts t fun ti=>rO ti cx.st.h (val cx k) (val cx v) (val cx m)
 | .insert t m k v=>an cx.ts t fun ti=>rO ti cx.st.h (val cx k) (val cx v) (val cx m)
 | .mapEntry t m k=>an cx.ts t fun ti=>od ti cx.nx cx.st.h (val cx k) (val cx m)
 | .entryStore t m s v=>an cx.ts t fun ti=>wc ti cx.st.h (val cx v) (val cx m) (val cx s)
 | .range t m=>an cx.ts t fun ti=>sI ti cx.nx cx.st.h (val cx m)
 | .next it false=>Dd (val cx it)
 | .entry it=>rh cx.st.h (val cx it)
 | .typeAssert x _ t ok=>an cx.ts t fun ti=>taS t ok ti (val cx x)
 | .call ⟨.value f,args,_⟩ =>pf (bT cx args.toList) (val cx f)
 | .call ⟨.builtin .len,args,tys⟩ =>match tys.toList with| [t] =>an cx.ts t fun ti=>lD ti cx.st.h (bT cx args.toList) |_=>.bad
 | .call ⟨.builtin .delete,args,tys⟩ =>match tys.toList with|t::_=>an cx.ts t fun ti=>oK ti cx.st.h (bT cx args.toList) |_=>.bad
 | .call ⟨.builtin .clear,args,tys⟩ =>match tys.toList with| [t] =>an cx.ts t fun ti=>an cx.ts ti.elem fun te=>oJ ti te cx.st.h (bT cx args.toList) |_=>.bad
 | .call ⟨.builtin .min,args,_⟩ =>wa (bT cx args.toList)
 | .call ⟨.builtin .max,args,_⟩ =>wb (bT cx args.toList)
 | .call ⟨.builtin .append,args,tys⟩ =>match tys.toList with| [t,t2] =>an cx.ts t fun ti=>an cx.ts t2 fun ti2=>an cx.ts ti.elem fun te=>bif ti.isSlice&&ti2.isSlice then gE te cx.nx cx.st.h (bT cx args.toList)else .bad|_=>.bad
 |_=>.bad
structure Fp where
 all:List Nat
 rd:List Nat
 wk:List Nat
 tc:List Nat
 wt:List Nat
def du:SV->List Nat
 | .ptr id _=>[id]
 | .os id=>[id]
 | .rp _ id _ _=>[id]
 | .gr id _=>[id]
 | .gp _ id _ _ _=>[id]
 | .vw _ id _ _=>[id]
 |_=>[]
def wd:SV->List Nat
 | .ls [.os id] =>[id]
 |s=>du s
def jg:List SV->List Nat
 | [] =>[]
 |s::r=>wd s++jg r
def Df:Ob->List Nat
 | .mi (some mid) _ _ _=>[mid]
 |_=>[]
def Dg (h:List Ob):SV->List Nat
 | .ptr id _=>Df (ae h id)
 |_=>[]
def fpO (cx:Cx):Op->List Nat×List Nat
 | .range _ m=>(du (val cx m),[])
 | .entry it=>(du (val cx it)++Dg cx.st.h (val cx it),[])
 | .load _ a=>(du (val cx a),[])
 | .store _ a x=>(du (val cx a)++du (val cx x),[])
 | .indexAddr _ x _=>(du (val cx x),[])
 | .slice _ x _ _ _=>(du (val cx x),[])
 | .lookup _ m _ ok=>bif ok then(du (val cx m),[])else([],du (val cx m))
 | .mapUpdate _ m _ _=>(du (val cx m),[])
 | .insert _ m _ _=>(du (val cx m),[])
 | .mapEntry _ m _=>(du (val cx m),[])
 | .entryStore _ m _ _=>(du (val cx m),[])
 | .call ⟨.builtin .len,args,_⟩ =>(jg (bT cx args.toList),[])
 | .call ⟨.builtin .append,args,_⟩ =>(jg (bT cx args.toList),[])
 | .call ⟨.builtin .delete,args,_⟩ =>(jg (bT cx args.toList),[])
 | .call ⟨.builtin .clear,args,_⟩ =>(jg (bT cx args.toList),[])
 |_=>([],[])
def c8:List Up->List Nat
 | [] =>[]
 |(id,_)::r=>id::c8 r
def lh:Op->Bool
 | .mapEntry .. =>true
 |_=>false
def fpU (o:Op)(x:List Nat×List Nat)(all:List Nat)(ups:List Up):Fp:=
 bif lh o then ⟨all,x.1,x.2,[],c8 ups⟩else ⟨all,x.1,x.2,c8 ups,[]⟩
def xD (as:List Nat):List Edge->Nat
 | [] =>0
 |e::r=>bif Region.binds .any e then Nat.lor (Nat.lor ((nth as e.on).getD 0) (Nat.shiftLeft 1 e.on)) (xD as r)else xD as r
def qz:List Oper->List Nat->List Nat
 | [],as=>as
 |o::r,as=>qz r (as++[xD as o.after.toList])
def kL (as:List Nat)(i j:Nat):Bool:=Nat.testBit ((nth as i).getD 0) j
def rP (n:Nat):List Nat->Bool
 | [] =>false
 |m::r=>bif Nat.beq m n then true else rP n r
def li:List Nat->List Nat->Bool
 | [],_=>false
 |a::r,l=>bif rP a l then true else li r l
def lj (i e:Fp):Bool:=
 li i.all e.tc||li i.all e.wt||li i.rd e.tc||li i.rd e.wt||li i.wk e.tc||li i.tc e.tc||li i.tc e.wt||li i.wt e.tc||li i.wt e.wt
def xE (as:List Nat)(i:Nat)(x:Fp):Nat->List Fp->Bool
 |_,[] =>true
 |j,y::r=>(Nat.beq i j|| !(lj x y) ||(Nat.blt j i&&kL as i j) ||(Nat.blt i j&&kL as j i))&&xE as i x (j+1) r
def AM (as:List Nat)(b:Nat)(all:List Fp):Nat->List Fp->Bool
 |_,[] =>true
 |i,x::r=>xE as i x b all&&AM as b all (i+1) r
def H4 (ops:List Oper)(b:Nat)(fps:List Fp):Bool:=AM (qz ops []) b fps b fps
def sJ:List Fp->Bool
 | [] =>true
 |x::r=>x.tc.isEmpty&&x.wt.isEmpty&&sJ r
def kM (ops:List Oper)(b:Nat)(fps:List Fp):Prop:=bif sJ fps then True else H4 ops b fps=true
def we (as:List Nat)(c:Nat):Nat->List Oper->Bool
 |_,[] =>true
 |i,_::r=>(Nat.beq i c||(Nat.blt i c&&kL as c i) ||(Nat.blt c i&&kL as i c))&&we as c (i+1) r
def sK (ops:List Oper)(c:Nat):Bool:=we (qz ops []) c 0 ops
def co (ops:List Oper)(t:List (Nat×SV)):Nat->Nat×Bool->Prop
 |0,_=>True
 |n+1,(j,want) =>match (nth ops j).bind (·.dst)with
  |some d=>match lk d t with
   | .v (.bool x) =>x=want
   | .gd j' b (.v (.bool x)) =>co ops t n (j',b)/\x=want
   |_=>True
  |none=>True
def dD (ops:List Oper)(t:List (Nat×SV)):Nat->Nat×Bool->Prop
 |0,_=>True
 |n+1,(j,want) =>match (nth ops j).bind (·.dst)with
  |some d=>match lk d t with
   | .v (.bool x) =>¬x=want
   | .gd j' b (.v (.bool x)) =>dD ops t n (j',b)\/¬x=want
   |_=>True
  |none=>True
def mq (ops:List Oper)(t:List (Nat×SV)):Nat->Nat×Bool->Prop
 |0,_=>False
 |n+1,(j,want) =>match (nth ops j).bind (·.dst)with
  |some d=>match lk d t with
   | .v (.bool x) =>¬x=want
   | .gd j' b (.v (.bool x)) =>mq ops t n (j',b)\/¬x=want
   |_=>False
  |none=>False
def FR (szt off:Nat)(i:Int):Ob->SV
 | .row k l=>bif Nat.beq szt (aa k)then .ep (cellsOf k (l.getD i.toNat (di k))) off else .any
 |_=>.any
def AN (szt off:Nat)(i j:Int):Ob->SV
 | .grid k l=>bif Nat.beq szt (aa k)then .ep (cellsOf k ((l.getD i.toNat []).getD j.toNat (di k))) off else .any
 |_=>.any
def Dh (i:Int):Ob->SV
 | .grid k l=>.rs k (l.getD i.toNat [])
 |_=>.any
def frz:Ob->SV
 | .row k l=>.rs k l
 | .mp kk vk l p=>bif noE p then .rm kk vk l else .any
 | .grid k l=>xo k l
 | .fz k l=>.rs k l
 |_=>.any
def BK (f:SV->SV)(off:Nat):Ob->SV
 | .cells l=>.ep (l.map f) off
 |_=>.any
def FT (s:Nat)(lo hi:Int):Ob->SV
 | .row k l=>bif Nat.beq s (aa k)then .rs k ((l.take hi.toNat).drop lo.toNat)else .any
 |_=>.any
def dl (h:List Ob):Nat->SV->SV
 |_,.v x=>.v x
 |_,.rs k l=>.rs k l
 |_,.rc k l=>.rs k l
 |_,.e0=>.e0
 |_,.rm k k2 l=>.rm k k2 l
 |_,.os id=>frz (ae h id)
 |_,.vw s id lo hi=>FT s lo hi (ae h id)
 |_,.rp s id i off=>bif Nat.beq s 0 then .any else FR s off i (ae h id)
 |_,.gp s id i j off=>bif Nat.beq s 0 then .any else AN s off i j (ae h id)
 |_,.gr id i=>Dh i (ae h id)
 |n+1,.ptr id off=>BK (dl h n) off (ae h id)
 |n+1,.ep l off=>.ep (l.map (dl h n)) off
 |n+1,.ls l=>.ls (l.map (dl h n))
 |n+1,.agg l=>.agg (l.map (dl h n))
 |n+1,.tup l=>.tup (l.map (dl h n))
 |n+1,.fn f first caps=>.fn f (first.map (dl h n)) (caps.map (dl h n))
 |_,_=>.any
def BL (f:SV->List Nat):Ob->List Nat
 | .cells l=>l.flatMap f
 |_=>[]
def eO (h:List Ob):Nat->SV->List Nat
 |_,.os id=>[id]
 |_,.rp _ id _ _=>[id]
 |_,.gp _ id _ _ _=>[id]
 |_,.gr id _=>[id]
 |_,.vw _ id _ _=>[id]
 |n+1,.ptr id _=>id::BL (eO h n) (ae h id)
 |n+1,.ep l _=>l.flatMap (eO h n)
 |n+1,.ls l=>l.flatMap (eO h n)
 |n+1,.agg l=>l.flatMap (eO h n)
 |n+1,.tup l=>l.flatMap (eO h n)
 |n+1,.fn _ first caps=>first.flatMap (eO h n)++caps.flatMap (eO h n)
 |_,_=>[]
def ungd:List (Nat×SV)->List (Nat×SV)
 | [] =>[]
 |(d,.gd ..)::r=>(d,.any)::ungd r
 |x::r=>x::ungd r
def bO:Nat->SV->Bool
 |_,.v _=>true
 |_,.rs _ _=>true
 |_,.rm _ _ _=>true
 |_,.e0=>true
 |_,.rc _ _=>true
 |_,.any=>true
 |n+1,.ep l _=>l.all (bO n)
 |n+1,.ls l=>l.all (bO n)
 |n+1,.agg l=>l.all (bO n)
 |n+1,.tup l=>l.all (bO n)
 |n+1,.fn _ l m=>l.all (bO n)&&m.all (bO n)
 |_,_=>false
def dW:Nat->SV->Bool
 |_,.v _=>true
 |_,.nw k _=>Nat.beq (rank k) 0
 |_,.nm k k2 _=>Nat.beq (rank k) 0&&Nat.beq (rank k2) 0
 |_,.ng k _=>Nat.beq (rank k) 0
 |n+1,.agg l=>l.all (dW n)
 |n+1,.tup l=>l.all (dW n)
 |_,_=>false
def av:Nat->SV->List Ob
 |_,.nw k l=>[.row k l]
 |_,.nm k k2 l=>[.mp k k2 l none]
 |_,.ng k l=>[.grid k l]
 |n+1,.agg l=>l.flatMap (av n)
 |n+1,.tup l=>l.flatMap (av n)
 |_,_=>[]
def j6 (f:Nat->SV->SV)(c:SV->Nat):Nat->List SV->List SV
 |_,[] =>[]
 |b,x::r=>f b x::j6 f c (b+c x) r
def er:Nat->Nat->SV->SV
 |_,b,.nw _ _=>.os b
 |_,b,.nm _ _ _=>.os b
 |_,b,.ng _ _=>.os b
 |n+1,b,.agg l=>.agg (j6 (er n) (fun s=>(av n s).length) b l)
 |n+1,b,.tup l=>.tup (j6 (er n) (fun s=>(av n s).length) b l)
 |_,_,s=>s
def dm:Nat->SV->List Nat
 |_,.ptr id _=>[id]
 |_,.os id=>[id]
 |_,.rp _ id _ _=>[id]
 |_,.gr id _=>[id]
 |_,.gp _ id _ _ _=>[id]
 |_,.vw _ id _ _=>[id]
 |n+1,.ep l _=>l.flatMap (dm n)
 |n+1,.ls l=>l.flatMap (dm n)
 |n+1,.agg l=>l.flatMap (dm n)
 |n+1,.tup l=>l.flatMap (dm n)
 |n+1,.fn _ l m=>l.flatMap (dm n)++m.flatMap (dm n)
 |n+1,.gd _ _ s=>dm n s
 |_,_=>[]
def Di:Ob->List Nat
 | .cells l=>l.flatMap (dm 3)
 |_=>[]
def reach (h:List Ob):Nat->List Nat->List Nat->List Nat
 |0,_,acc=>acc
 |_+1,[],acc=>acc
 |n+1,id::todo,acc=>bif rP id acc then reach h n todo acc else reach h n (Di (ae h id)++todo) (acc++[id])
def oe (id:Nat):List Nat->Option Nat
 | [] =>none
 |a::r=>bif Nat.beq a id then some 0 else(oe id r).map (· +1)
def pg (f:Nat->SV):Option Nat->SV
 |some k=>f k
 |none=>.any
def ren (m:Nat->Option Nat):Nat->SV->SV
 |_,.ptr id off=>pg (fun k=>.ptr k off) (m id)
 |_,.os id=>pg (fun k=>.os k) (m id)
 |_,.rp s id i off=>pg (fun k=>.rp s k i off) (m id)
 |_,.gr id i=>pg (fun k=>.gr k i) (m id)
 |_,.gp s id i j off=>pg (fun k=>.gp s k i j off) (m id)
 |_,.vw s id lo hi=>pg (fun k=>.vw s k lo hi) (m id)
 |n+1,.ep l o=>.ep (l.map (ren m n)) o
 |n+1,.ls l=>.ls (l.map (ren m n))
 |n+1,.agg l=>.agg (l.map (ren m n))
 |n+1,.tup l=>.tup (l.map (ren m n))
 |n+1,.fn f l l2=>.fn f (l.map (ren m n)) (l2.map (ren m n))
 |_,.any=>.any
 |_,.v x=>.v x
 |_,.e0=>.e0
 |_,.rc k l=>.rc k l
 |_,.rs k l=>.rs k l
 |_,.rm k k2 l=>.rm k k2 l
 |_,_=>.any
def zf (kk vk:Tag)(l:List (kk.T×vk.T)):Option kk.T->Option Nat->Ob
 |p,some k=>.mp kk vk l (some (k,p))
 |some _,none=>.fwd none
 |none,none=>.mp kk vk l none
def mr (m:Nat->Option Nat):Ob->Ob
 | .cells l=>.cells (l.map (ren m 3))
 | .mi mid n left cur=>.mi (mid.bind m) n left cur
 | .fwd n=>.fwd (n.bind m)
 | .mp kk vk l (some (i,p)) =>zf kk vk l p (m i)
 |o=>o
def inN (ids:List Nat)(i:Nat):Option Nat:=oe i ids
def km (h:List Ob)(ids:List Nat):List Ob:=ids.map fun id=>mr (inN ids) (ae h id)
def kh (ids:List Nat)(b:Nat)(k:Nat):Option Nat:=match nth ids k with|some id=>some id|none=>some (b+(k - ids.length))
def fH (ids:List Nat)(b:Nat)(k:Nat):Nat:=match nth ids k with|some id=>id|none=>b+(k - ids.length)
def gP (ids:List Nat)(b:Nat)(h:List Ob):Nat->List Ob->List Ob
 |_,[] =>h
 |k,o::r=>gP ids b (bf h (fH ids b k) (mr (kh ids b) o)) (k+1) r
def zg (ids:List Nat)(d:Option Nat)(st:St)(K:St->Prop)(Z:Value->St->Prop):Rs->Prop
 | .ret s h=>K (St.put ⟨st.t,gP ids st.h.length st.h 0 h⟩ d (ren (kh ids st.h.length) 3 s))
 | .pan x h=>Z x ⟨ungd st.t,gP ids st.h.length st.h 0 h⟩
def BN (ids:List Nat)(g:Nat×Bool)(d:Option Nat)(st:St)(K:St->Prop)(Z:Value->St->Prop):Rs->Prop
 | .ret s h=>K (St.put ⟨st.t,gP ids st.h.length st.h 0 h⟩ d (.gd g.1 g.2 (ren (kh ids st.h.length) 3 s)))
 | .pan x h=>Z x ⟨ungd st.t,gP ids st.h.length st.h 0 h⟩
def ph (ids:List Nat)(d:Option Nat)(st:St)(K:St->Prop)(Z:Value->St->Prop):Option HCon->Prop
 |some c=>c.pre/\∀ r,c.post r->zg ids d st K Z (c.res r)
 |none=>False
def oL (ids:List Nat)(ops:List Oper)(g:Nat×Bool)(d:Option Nat)(st:St)(K:St->Prop)(Z:Value->St->Prop):Option HCon->Prop
 |some c=>(co ops st.t ops.length g->c.pre/\∀ r,c.post r->BN ids g d st K Z (c.res r))/\(dD ops st.t ops.length g->K (st.put d (.gd g.1 g.2 .any)))
 |none=>mq ops st.t ops.length g/\K (st.put d (.gd g.1 g.2 .any))
def na (np:Bool)(ids:List Nat)(d:Option Nat)(st:St)(K:St->Prop)(Z:Value->St->Prop)(c:Option HCon):Option Con->Prop
 |some (.det p s) =>bif np||dW 3 s then(p/\K (St.put ⟨st.t,st.h++av 3 s⟩ d (er 3 st.h.length s)))else ph ids d st K Z c
 |some (.rel _ pre post out) =>pre/\(bif np then ∀ r,post r->K (St.put ⟨st.t,st.h++av 3 (out r)⟩ d (er 3 st.h.length (out r)))else False)
 |some (.may ok s x) =>bif np||dW 3 s then(ok=true->K (St.put ⟨st.t,st.h++av 3 s⟩ d (er 3 st.h.length s)))/\(ok=false->Z x ⟨ungd st.t,st.h⟩)else False
 |none=>ph ids d st K Z c
def sL (np:Bool)(ids:List Nat)(ops:List Oper)(g:Nat×Bool)(d:Option Nat)(st:St)(K:St->Prop)(Z:Value->St->Prop)(c:Option HCon):Option Con->Prop
 |some (.det p s) =>(co ops st.t ops.length g->p)/\(bif(np||dW 3 s)&&(av 3 s).isEmpty then K (st.put d (.gd g.1 g.2 s))else False)
 |none=>oL ids ops g d st K Z c
 |_=>False
def zh (id:Nat)(d:Option Nat)(st:St)(K:St->Prop):Option YCon->Prop
 |some c=>c.pre/\∀ r,c.post r->K (St.put ⟨st.t,bf st.h id (.ab (c.res r).2)⟩ d (.b (c.res r).1))
 |none=>False
def xF (id:Nat)(ops:List Oper)(g:Nat×Bool)(d:Option Nat)(st:St)(K:St->Prop):Option YCon->Prop
 |some c=>(co ops st.t ops.length g->c.pre/\∀ r,c.post r->K (St.put ⟨st.t,bf st.h id (.ab (c.res r).2)⟩ d (.gd g.1 g.2 (.b (c.res r).1))))/\(dD ops st.t ops.length g->K (st.put d (.gd g.1 g.2 .any)))
 |none=>False
def wg (G:Cons)(args:List SV):Ob->Option YCon
 | .ab r=>G.y args r
 |_=>none
def Dj (id mid n:Nat)(left:List Nat)(d:Option Nat)(st:St)(next:St->Prop):Ob->Prop
 | .mp kk vk l (some (it,none)) =>(it=id/\n=l.length)/\(left=[]->next (st.put d (.tup [.v (.bool false)])))/\
   ∀ j,j∈left->next (St.put ⟨st.t,bf st.h id (.mi (some mid) n (left.erase j) (some j))⟩ d (.tup [.v (.bool true),svT kk (l.getD j (di kk,di vk)).1,svT vk (l.getD j (di kk,di vk)).2]))
 |_=>False
def FU (id:Nat)(d:Option Nat)(st:St)(next:St->Prop):Ob->Prop
 | .mi (some mid) n left _=>Dj id mid n left d st next (ae st.h mid)
 |_=>False
def gj (G:Cons)(d:Option Nat)(st:St)(next:St->Prop)(Z:Value->St->Prop):OR->Prop
 | .val s=>next (st.put d s)
 | .chk c s=>c/\next (st.put d s)
 | .asm c s=>c->next (st.put d s)
 | .newr s=>next (st.put d s)
 | .eff c a ups s=>c/\(a->next (St.put ⟨st.t,aD st.h ups⟩ d s))
 | .call f args=>na (args.all (bO 3)) (reach st.h 64 (args.flatMap (dm 3)) []) d st next Z (G.o f (args.map (ren (inN (reach st.h 64 (args.flatMap (dm 3)) [])) 6)) (km st.h (reach st.h 64 (args.flatMap (dm 3)) []))) (G.p f (args.map (dl st.h 6)))
 | .yld id args=>bif args.all (bO 3)then zh id d st next (wg G args (ae st.h id))else False
 | .nxt id=>FU id d st next (ae st.h id)
 | .amb p=>∀ b,p b->next (st.put d (.v (.bool b)))
 | .pan x=>Z x ⟨ungd st.t,st.h⟩
 | .bad=>False
def stepG (G:Cons)(ops:List Oper)(g:Nat×Bool)(d:Option Nat)(st:St)(next:St->Prop)(Z:Value->St->Prop):OR->Prop
 | .val s=>next (st.put d (.gd g.1 g.2 s))
 | .chk c s=>(co ops st.t ops.length g->c)/\next (st.put d (.gd g.1 g.2 s))
 | .asm _ s=>next (st.put d (.gd g.1 g.2 s))
 | .newr s=>next (st.put d (.gd g.1 g.2 s))
 | .eff c a ups s=>(co ops st.t ops.length g->c/\(a->next (St.put ⟨st.t,aD st.h ups⟩ d (.gd g.1 g.2 s))))/\(dD ops st.t ops.length g->next (st.put d (.gd g.1 g.2 .any)))
 | .call f args=>sL (args.all (bO 3)) (reach st.h 64 (args.flatMap (dm 3)) []) ops g d st next Z (G.o f (args.map (ren (inN (reach st.h 64 (args.flatMap (dm 3)) [])) 6)) (km st.h (reach st.h 64 (args.flatMap (dm 3)) []))) (G.p f (args.map (dl st.h 6)))
 | .yld id args=>bif args.all (bO 3)then xF id ops g d st next (wg G args (ae st.h id))else False
 | .bad=>mq ops st.t ops.length g/\next (st.put d (.gd g.1 g.2 .any))
 | .nxt _=>False
 | .amb _=>False
 | .pan _=>False
def eP (ts:Tis)(G:Cons)(ops:List Oper):List Oper->St->(St->Prop)->(Value->St->Prop)->Prop
 | [],st,K,_=>K st
 |o::rest,st,K,Z=>match o.guard with
  |none=>gj G o.dst st (fun st'=>eP ts G ops rest st' K Z) Z (opS ⟨ts,ops,none,st,st.h.length⟩ o.op)
  |some g=>stepG G ops g o.dst st (fun st'=>eP ts G ops rest st' K Z) Z (opS ⟨ts,ops,some g,st,st.h.length⟩ o.op)
structure Dr where
 c:Prop
 a:Prop
 s:SV
 ups:List Up
 all:List Nat
def drR (np:Bool)(rd:List Nat)(nx:Nat)(p:Prop)(s:SV):List Ob->Option Dr
 | [] =>bif np||dW 3 s then some ⟨p,True,s,[],rd⟩else none
 | [ob] =>bif np||dW 3 s then some ⟨p,True,er 3 nx s,[(nx,ob)],rd⟩else none
 |_=>none
def drC (np:Bool)(rd:List Nat)(nx:Nat):Option Con->Option Dr
 |some (.det p s) =>drR np rd nx p s (av 3 s)
 |_=>none
def ff (G:Cons)(h:List Ob)(nx:Nat):OR->Option Dr
 | .val s=>some ⟨True,True,s,[],[]⟩
 | .chk c s=>some ⟨c,True,s,[],[]⟩
 | .asm c s=>some ⟨True,c,s,[],[]⟩
 | .newr s=>some ⟨True,True,s,[],[]⟩
 | .eff c a ups s=>some ⟨c,a,s,ups,[]⟩
 | .call f args=>drC (args.all (bO 3)) (args.flatMap (eO h 6)) nx (G.p f (args.map (dl h 6)))
 | .bad=>some ⟨False,True,.any,[],[]⟩
 |_=>none
def drN (d:Option Nat)(st:St)(next:List Nat->List Up->St->Prop)(r:Dr):Prop:=r.c/\(r.a->next r.all r.ups (St.put ⟨st.t,aD st.h r.ups⟩ d r.s))
def drG (ops:List Oper)(g:Nat×Bool)(d:Option Nat)(st:St)(next:List Nat->List Up->St->Prop)(r:Dr):Prop:=
 bif r.ups.isEmpty then(co ops st.t ops.length g->r.c)/\next r.all [] (st.put d (.gd g.1 g.2 r.s))
 else ¬ (co ops st.t ops.length g/\dD ops st.t ops.length g)/\(co ops st.t ops.length g->r.c/\(r.a->next r.all r.ups (St.put ⟨st.t,aD st.h r.ups⟩ d (.gd g.1 g.2 r.s))))/\(dD ops st.t ops.length g->next r.all [] (st.put d (.gd g.1 g.2 r.s)))
def oM (d:Option Nat)(st:St)(next:List Nat->List Up->St->Prop)(cutp:Prop):Option Dr->Prop
 |some r=>drN d st next r
 |none=>cutp
def nc (ops:List Oper)(g:Nat×Bool)(d:Option Nat)(st:St)(next:List Nat->List Up->St->Prop)(cutp:Prop):Option Dr->Prop
 |some r=>drG ops g d st next r
 |none=>cutp
def fh (ts:Tis)(G:Cons)(ops:List Oper)(K:St->Prop)(Z:Value->St->Prop):List Oper->(i b:Nat)->List Fp->St->Prop
 | [],_,b,fps,st=>kM ops b fps/\K st
 |o::rest,i,b,fps,st=>match o.guard with
  |none=>oM o.dst st (fun all ups st'=>fh ts G ops K Z rest (i+1) b (fps++[fpU o.op (fpO ⟨ts,ops,none,st,st.h.length⟩ o.op) all ups]) st')
    (kM ops b fps/\sK ops i=true/\gj G o.dst st (fun st'=>fh ts G ops K Z rest (i+1) (i+1) [] st') Z (opS ⟨ts,ops,none,st,st.h.length⟩ o.op))
    (ff G st.h st.h.length (opS ⟨ts,ops,none,st,st.h.length⟩ o.op))
  |some g=>nc ops g o.dst st (fun all ups st'=>fh ts G ops K Z rest (i+1) b (fps++[fpU o.op (fpO ⟨ts,ops,some g,st,st.h.length⟩ o.op) all ups]) st')
    (kM ops b fps/\sK ops i=true/\stepG G ops g o.dst st (fun st'=>fh ts G ops K Z rest (i+1) (i+1) [] st') Z (opS ⟨ts,ops,some g,st,st.h.length⟩ o.op))
    (ff G st.h st.h.length (opS ⟨ts,ops,some g,st,st.h.length⟩ o.op))
def IY (id:Nat):Ob->SV
 | .fwd (some n) =>.os n
 |_=>.os id
def Dk (h:List Ob):SV->SV
 | .os id=>IY id (ae h id)
 |s=>s
def zi (h:List Ob):List (Nat×SV)->List (Nat×SV)
 | [] =>[]
 |(d,s)::r=>(d,Dk h s)::zi h r
def AO:Ob->Bool
 | .fwd (some _) =>true
 |_=>false
def gS:List Ob->Bool
 | [] =>false
 |o::r=>AO o||gS r
def IZ:Ob->Ob
 | .fwd _=>.dead
 |o=>o
def ot:List Ob->List Ob
 | [] =>[]
 |o::r=>IZ o::ot r
def cleanF (st:St):St:=bif gS st.h then ⟨zi st.h st.t,ot st.h⟩else st
def nf (ops:List Oper)(st:St):St:=cleanF (bif ops.any (·.guard.isSome)then ⟨ungd st.t,st.h⟩else st)
inductive Ex where
 |normal
 |exit (id:Nat)
 |ret
 |pan (x:Value)
def Ex.then (K:St->Prop)(Q:Ex->St->Prop):Ex->St->Prop
 | .normal,st=>K st
 |e,st=>Q e st
def Ex.block (id:Nat)(Q:Ex->St->Prop):Ex->St->Prop
 | .exit j,st=>bif Nat.beq j id then Q .normal st else Q (.exit j) st
 |e,st=>Q e st
def ou (x y:Prop):SV->Prop
 | .v (.bool b) =>(b=true->x)/\(b=false->y)
 |_=>False
structure LCon where
 α:Type
 pre:Prop
 post:α->Prop
 ex:α->Ex
 out:α->St
abbrev mL:=Nat->St->Option LCon
def kO (Q:Ex->St->Prop):Option LCon->Prop
 |some c=>c.pre/\∀ r,c.post r->Q (c.ex r) (c.out r)
 |none=>False
def Dl:Operand->Nat
 | .tmp n=>n+1000000
 |_=>0
def subJ (t:List (Nat×SV)):List (Nat×SV)->Prop
 | [] =>True
 |(n,s)::r=>lk n t=s/\subJ t r
def inJ (d:St):Ex->St->Prop
 | .normal,st=>st.h=d.h/\subJ st.t d.t
 |_,_=>False
def Dm (x y:(Ex->St->Prop)->Prop)(Q:Ex->St->Prop)(s:SV)(c:LCon):Prop:=
 ou (x fun e st=>∃ r,c.post r/\inJ (c.out r) e st) (y fun e st=>∃ r,c.post r/\inJ (c.out r) e st) s/\∀ r,c.post r->Q .normal (c.out r)
def sM (x y:(Ex->St->Prop)->Prop)(Q:Ex->St->Prop)(s:SV):Option LCon->Prop
 |none=>ou (x Q) (y Q) s
 |some c=>Dm x y Q s c
def JC (d:St):LCon:=⟨Unit,True,fun _=>True,fun _=>.normal,fun _=>d⟩
def M7 (c:LCon)(Q:Ex->St->Prop):Ex->St->Prop
 | .normal,st=>∃ r,c.post r/\inJ (c.out r) .normal st
 |e,st=>Q e st
def inC (d:St)(Q:Ex->St->Prop):Ex->St->Prop
 | .normal,st=>inJ d .normal st
 |e,st=>Q e st
def cutL (x:(Ex->St->Prop)->Prop)(Q:Ex->St->Prop)(c:LCon):Prop:=x (M7 c Q)/\∀ r,c.post r->Q .normal (c.out r)
def sN (x:(Ex->St->Prop)->Prop)(Q:Ex->St->Prop):Option LCon->Prop
 |none=>x Q
 |some c=>cutL x Q c
def ri (ts:Tis)(G:Cons)(ops:Array Oper)(d:Bool)(st:St)(Q:Ex->St->Prop):Prop:=
 bif d then fh ts G ops.toList (fun st'=>Q .normal (nf ops.toList st')) (fun x st'=>Q (.pan x) st') ops.toList 0 0 [] st
   else eP ts G ops.toList ops.toList st (fun st'=>Q .normal (nf ops.toList st')) (fun x st'=>Q (.pan x) st')
def exec (ts:Tis)(G:Cons)(L:mL):Code->St->(Ex->St->Prop)->Prop
 | .skip,st,Q=>Q .normal st
 | .region id ops d,st,Q=>sN (ri ts G ops d st) Q (L (id+2000000) st)
 | .seq a b,st,Q=>exec ts G L a st (Ex.then (fun st'=>exec ts G L b st' Q) Q)
 | .cond c x y,st,Q=>sM (exec ts G L x st) (exec ts G L y st) Q (raw st.t c) (L (Dl c) st)
 | .block id (.loop _),st,Q=>kO Q (L id st)
 | .block id (.rangeFunc ..),st,Q=>kO Q (L id st)
 | .block id c,st,Q=>exec ts G L c st (Ex.block id Q)
 | .exit id,st,Q=>Q (.exit id) st
 | .ret,st,Q=>Q .ret st
 | .scope c,st,Q=>exec ts G L c st Q
 | .label _,st,Q=>Q .normal st
 |_,_,_=>False
def FV:OR->Option SV
 | .val s=>some s
 |_=>none
def BO (ts:Tis)(st:St):ResultVar->Option SV
 | .tmp n=>some (lk n st.t)
 | .cell q t=>FV (an ts t fun ti=>jE ti st.h (lk q st.t))
def xG:Option SV->Option (List SV)->Option (List SV)
 |some s,some l=>some (s::l)
 |_,_=>none
def ir (ts:Tis)(st:St):List ResultVar->Option (List SV)
 | [] =>some []
 |x::r=>xG (BO ts st x) (ir ts st r)
def jh:Option (List SV)->Option SV
 |some [s] =>some s
 |some l=>some (.tup l)
 |none=>none
def M8 (h:List Ob):Option SV->Option SV
 |some s=>some (dl h 4 s)
 |none=>none
def pi (rs:List ResultVar)(ts:Tis)(st:St):Option SV:=M8 st.h (jh (ir ts st rs))
def nh:Ob->SV
 | .row k l=>.nw k l
 | .mp k k2 l none=>.nm k k2 l
 | .grid k l=>.ng k l
 |_=>.any
def ov (h:List Ob):Nat->SV->SV
 |_,.os id=>nh (ae h id)
 |n+1,.agg l=>.agg (l.map (ov h n))
 |n+1,.tup l=>.tup (l.map (ov h n))
 |_,.v x=>.v x
 |_,.rs k l=>.rs k l
 |_,.rm k k2 l=>.rm k k2 l
 |_,.e0=>.e0
 |n,s=>bif bO n s then s else .any
def mt:Nat->SV->List Nat
 |_,.os id=>[id]
 |n+1,.agg l=>l.flatMap (mt n)
 |n+1,.tup l=>l.flatMap (mt n)
 |_,_=>[]
def uniq:List Nat->Bool
 | [] =>true
 |a::r=>!(rP a r)&&uniq r
def rj (h:List Ob)(s:SV):Option SV:=bif uniq (mt 3 s)&&(mt 3 s).all (fun i=>Nat.blt i h.length)then some (ov h 3 s)else none
def H5 (h:List Ob):Option SV->Option SV
 |some s=>rj h s
 |none=>none
def BP (rs:List ResultVar)(ts:Tis)(st:St):Option SV:=H5 st.h (jh (ir ts st rs))
def oN (m:Bool)(rs:List ResultVar)(ts:Tis)(st:St):Option SV:=bif m then BP rs ts st else pi rs ts st
def rY (ops:List Oper)(i:Nat)(o:Oper):Bool:=
 match o.guard with
 |none=>true
 |some (j,_) =>Nat.blt j i&&(match (nth ops j).bind (·.dst)with
  |some d=>(List.range ops.length).all fun k=>Nat.beq k j||(match (nth ops k).bind (·.dst)with|some e=>!(Nat.beq d e) |none=>true)
  |none=>false)
def Dn (N:Nat)(ops:List Oper):Bool:=
 (List.range ops.length).all fun i=>match nth ops i with
  |some o=>(match o.dst with|some d=>Nat.blt d N|none=>true)&&rY ops i o
  |none=>true
def jk (o:Oper)(k:Nat):Bool:=o.after.toList.any fun e=>Nat.beq e.on k&&Region.binds .any e
def zj (ops:Array Oper):Bool:=
 (List.range ops.size).all fun i=>match nth ops.toList i with
  |some o=>
   (o.after.toList.all fun e=>!(Region.binds .any e) ||Nat.blt e.on i)&&
   (List.range ops.size).all fun k=>match nth ops.toList k with
    |some q=>match q.dst with
     |some d=>(Nat.beq k i|| !(o.dst==some d))&&(!((o.looksAt ops).contains d) ||Nat.beq k i||(Nat.blt k i&&jk o k) ||(Nat.blt i k&&jk q i))
     |none=>true
    |none=>true
  |none=>true
def ca (N:Nat):Code->Bool
 | .region _ ops d=>Dn N ops.toList&&(!d||zj ops)
 | .seq a b=>ca N a&&ca N b
 | .cond _ a b=>ca N a&&ca N b
 | .block _ c=>ca N c
 | .loop c=>ca N c
 | .scope c=>ca N c
 | .rangeFunc _ _ a b=>ca N a&&ca N b
 |_=>true
def gQ:Nat->Nat->SV->Bool
 |_,_,.v _=>true
 |_,_,.rs _ _=>true
 |_,_,.rm _ _ _=>true
 |_,_,.any=>true
 |_,_,.e0=>true
 |_,_,.rc _ _=>true
 |_,n,.ptr id _=>Nat.blt id n
 |_,n,.os id=>Nat.blt id n
 |_,n,.rp _ id _ _=>Nat.blt id n
 |_,n,.gr id _=>Nat.blt id n
 |_,n,.gp _ id _ _ _=>Nat.blt id n
 |_,n,.vw _ id _ _=>Nat.blt id n
 |f+1,n,.ep l _=>l.all (gQ f n)
 |f+1,n,.ls l=>l.all (gQ f n)
 |f+1,n,.agg l=>l.all (gQ f n)
 |f+1,n,.tup l=>l.all (gQ f n)
 |f+1,n,.fn _ l m=>l.all (gQ f n)&&m.all (gQ f n)
 |_,_,_=>false
def BQ (m:Nat->Option Nat)(n:Nat)(t:List (Nat×SV)):List (Nat×SV)->Prop
 | [] =>True
 |(i,s)::r=>(lk i t=ren m 5 s/\gQ 5 n s=true)/\BQ m n t r
def bZ:Ob->Bool
 | .dead=>true
 |_=>false
def mM (n:Nat):Ob->Bool
 | .cells l=>l.all (gQ 3 n)
 | .mi (some i) _ _ _=>Nat.blt i n
 | .fwd (some i) =>Nat.blt i n
 | .mp _ _ _ (some (i,_)) =>Nat.blt i n
 |_=>true
def unp {κ:Type}:Option (Nat×Option κ)->Option (Nat×Option κ)
 |some (_,none) =>none
 |p=>p
def xH:SV->Bool
 | .any=>true
 |_=>false
def wkL:List SV->List SV->List SV
 |a::r,x::s=>(bif xH a then .any else x)::wkL r s
 |_,s=>s
def sO:Ob->Ob->Ob
 | .mp _ _ _ none,.mp kk vk l p=>.mp kk vk l (unp p)
 | .cells a,.cells l=>.cells (wkL a l)
 |_,o=>o
def wh (m:Nat->Option Nat)(n:Nat)(h:List Ob)(j:Nat)(o:Ob):Prop:=bif bZ o then True else sO o (ae h j)=mr m o/\mM n o=true
def un (m:Nat->Option Nat)(n:Nat)(h:List Ob):List Nat->List Ob->Prop
 | [],[] =>True
 |j::js,o::r=>wh m n h j o/\un m n h js r
 |_,_=>False
def gF:List Nat->List Ob->List Nat
 |j::js,o::r=>bif bZ o then gF js r else j::gF js r
 |_,_=>[]
def qA:Nat->List Nat->Nat->Bool
 |_,[],_=>true
 |i,j::js,n=>(Nat.beq i j||Nat.ble n i)&&qA (i+1) js n
def rQ (js:List Nat)(i:Nat):Option Nat:=nth js i
def Sub (js:List Nat)(n0:Nat)(st st2:St):Prop:=
 (uniq (gF js st2.h)=true/\qA 0 js n0=true/\js.all (fun j=>Nat.blt j st.h.length)=true)/\BQ (rQ js) st2.h.length st.t st2.t/\un (rQ js) st2.h.length st.h js st2.h
def mu {σ:Type}(D:σ->St)(I:σ->Prop)(m:σ->Nat)(n0:Nat)(x:σ)(id:Nat)(Q:Ex->St->Prop):Ex->St->Prop
 | .normal,st=>∃ y js,I y/\m y<m x/\n0<=(D y).h.length/\Sub js n0 st (D y)
 | .exit j,st=>bif Nat.beq j id then Q .normal st else Q (.exit j) st
 | .ret,st=>Q .ret st
 | .pan x,st=>Q (.pan x) st
def iJ:Nat->List SV->List (Nat×SV)
 |_,[] =>[]
 |n,s::r=>(n,s)::iJ (n+1) r
def c9 (post:SV->Prop):Option SV->Prop
 |some s=>post s
 |none=>False
def xI (m:Bool)(rs:List ResultVar)(ts:Tis)(post:SV->Prop)(pp:Value->Prop):Ex->St->Prop
 | .exit _,_=>False
 | .normal,st=>c9 post (oN m rs ts st)
 | .ret,st=>c9 post (oN m rs ts st)
 | .pan x,_=>pp x
def pj (n0:Nat)(C:HCon):Option SV->List Ob->Prop
 |some s,h=>∃ r s' h' js,C.post r/\C.res r=.ret s' h'/\n0<=h'.length/\Sub js n0 ⟨[(0,s)],h⟩ ⟨[(0,s')],h'⟩
 |none,_=>False
def xJ (n0:Nat)(rs:List ResultVar)(ts:Tis)(C:HCon):Ex->St->Prop
 | .exit _,_=>False
 | .normal,st=>pj n0 C (jh (ir ts st rs)) st.h
 | .ret,st=>pj n0 C (jh (ir ts st rs)) st.h
 | .pan x,st=>∃ r h' js,C.post r/\C.res r=.pan x h'/\n0<=h'.length/\Sub js n0 ⟨[],st.h⟩ ⟨[],h'⟩
structure Hd where
 p:Option Nat:=none
 v:Value:=undef
 vs:List Value:=[]
 bs:List Nat:=[]
abbrev Own:=Nat->Option Hd
def bD (F:Nat->Prop)(own:Own)(b:Nat):Prop:=F b\/∃ id hd,own id=some hd/\b∈hd.bs
def bX:Own:=fun _=>none
def Hd.like (a b:Hd):Prop:=b.p=a.p/\b.v=a.v/\b.vs=a.vs
theorem Hd.like.refl (a:Hd):a.like a:=⟨rfl,rfl,rfl⟩
theorem Hd.like.trans {a b c:Hd}(h:a.like b)(h':b.like c):a.like c:=⟨h'.1.trans h.1,h'.2.1.trans h.2.1,h'.2.2.trans h.2.2⟩
def jF:Value->Bool
 | .agg _=>false
 | .tuple _=>false
 |_=>true
theorem sP {v:Value}(h:jF v=true):v.cells= #[v]:=by cases v <;>first|rfl|simp[jF]at h
theorem fK {v:Value}(h:jF v=true):v.oneCell'=true:=by cases v <;>first|rfl|simp[jF]at h
def I0 (x:Value)(sz:Nat)(lo hi:Int)(a:Option Addr):Prop:=hi.toNat<=lo.toNat\/∃ b o n cap,x=.slice (some ⟨b,o,none⟩) n cap/\hi.toNat<=n/\a=some ⟨b,o+lo.toNat*sz,none⟩
inductive Rel (F:Nat->Prop)(own:Own)(w:World):SV->Value->Prop where
 |any (v:Value):Rel F own w .any v
 |v (x:Value):Rel F own w (.v x) x
 |ptr {id off b:Nat} {hd:Hd}:own id=some hd->hd.p=some b->Rel F own w (.ptr id off) (.pointer (some ⟨b,off,none⟩))
 |os {id:Nat} {hd:Hd}:own id=some hd->jF hd.v=true->Rel F own w (.os id) hd.v
 |e0 {a:Option Addr}:Rel F own w .e0 (.slice a 0 0)
 |rc {k:Tag} {l:List k.T} {a:Option Addr}:Rel F own w (.rs k l) (.slice a l.length l.length)->Rel F own w (.rc k l) (.slice a l.length l.length)
 |rp {sz id off n cap b o:Nat} {i:Int} {hd:Hd}:own id=some hd->hd.v=.slice (some ⟨b,o,none⟩) n cap->i.toNat<n->Rel F own w (.rp sz id i off) (.pointer (some ⟨b,o+i.toNat*sz+off,none⟩))
 |gr {id:Nat} {i:Int} {v:Value} {hd:Hd}:own id=some hd->hd.vs[i.toNat]? =some v->jF v=true->Rel F own w (.gr id i) v
 |gp {sz id off n cap b o:Nat} {i j:Int} {hd:Hd}:own id=some hd->hd.vs[i.toNat]? =some (.slice (some ⟨b,o,none⟩) n cap)->j.toNat<n->Rel F own w (.gp sz id i j off) (.pointer (some ⟨b,o+j.toNat*sz+off,none⟩))
 |vw {sz id cap:Nat} {lo hi:Int} {hd:Hd} {a:Option Addr}:own id=some hd->I0 hd.v sz lo hi a->hi.toNat - lo.toNat<=cap->Rel F own w (.vw sz id lo hi) (.slice a (hi.toNat - lo.toNat) cap)
 |ep {cells:List SV} {off b o:Nat} (c:Nat->Value):
   (∀ j s,cells[j]? =some s->¬bD F own b/\w.cell? ⟨b,o+j,none⟩=some (c j))->(∀ j s,cells[j]? =some s->Rel F own w s (c j))->
   Rel F own w (.ep cells off) (.pointer (some ⟨b,o+off,none⟩))
 |rs {k:Tag} {l:List k.T} {b o cap:Nat} (c:Nat->Nat->Value):l.length<=cap->l.length<=bR->
   (∀ (i:Nat) (x:k.T),l[i]? =some x->∀ (j:Nat) (s:SV),(cellsOf k x)[j]? =some s->¬bD F own b/\w.cell? ⟨b,o+i*aa k+j,none⟩=some (c i j))->
   (∀ (i:Nat) (x:k.T),l[i]? =some x->∀ (j:Nat) (s:SV),(cellsOf k x)[j]? =some s->Rel F own w s (c i j))->
   Rel F own w (.rs k l) (.slice (some ⟨b,o,none⟩) l.length cap)
 |rs0 {k:Tag} {a:Option Addr} {cap:Nat}:Rel F own w (.rs k []) (.slice a 0 cap)
 |ls {l:List SV} {b o cap:Nat} (c:Nat->Value):l.length<=cap->
   (∀ j s,l[j]? =some s->¬bD F own b/\w.cell? ⟨b,o+j,none⟩=some (c j))->(∀ j s,l[j]? =some s->Rel F own w s (c j))->
   Rel F own w (.ls l) (.slice (some ⟨b,o,none⟩) l.length cap)
 |rm {kk vk:Tag} {l:List (kk.T×vk.T)} {b:Nat} (ck cv:Nat->Value) (es:Array MapEntry) (clock:Nat):¬bD F own b->w.heap[b]? =some (.map es clock)->es.size=l.length->
   (∀ (i:Nat) (x:kk.T×vk.T),l[i]? =some x->∃ n,es[i]? =some ⟨ck i,cv i,n⟩)->
   (∀ (i:Nat) (x:kk.T×vk.T),l[i]? =some x->Rel F own w (svT kk x.1) (ck i))->(∀ (i:Nat) (x:kk.T×vk.T),l[i]? =some x->Rel F own w (svT vk x.2) (cv i))->
   Rel F own w (.rm kk vk l) (.map (some b))
 |rm0 {kk vk:Tag}:Rel F own w (.rm kk vk []) (.map none)
 |agg {l:List SV} {vs:Array Value}:vs.size=l.length->(∀ (j:Nat) (s:SV),l[j]? =some s->Rel F own w s (vs.getD j undef))->Rel F own w (.agg l) (.agg vs)
 |tup {l:List SV} {vs:Array Value}:vs.size=l.length->(∀ (j:Nat) (s:SV),l[j]? =some s->Rel F own w s (vs.getD j undef))->Rel F own w (.tup l) (.tuple vs)
 |fn {f:FuncId} {first caps:List SV} {us vs:Array Value}:us.size=first.length->vs.size=caps.length->(∀ (j:Nat) (s:SV),first[j]? =some s->Rel F own w s (us.getD j undef))->
   (∀ (j:Nat) (s:SV),caps[j]? =some s->Rel F own w s (vs.getD j undef))->Rel F own w (.fn f first caps) (.func (.func f) us vs)
structure Goes (F:Nat->Prop)(own:Own)(w:World)(own':Own)(w':World):Prop where
 ids:∀ (id:Nat) (hd:Hd),own id=some hd->∃ hd',own' id=some hd'/\hd.like hd'
 keep:∀ b,b<w.heap.size->¬bD F own b->¬bD F own' b/\w'.heap[b]? =w.heap[b]?
 size:w.heap.size<=w'.heap.size
structure Bs where
 w:World
 own:Own:=bX
 ds:List Deferred:=[]
def Old (B:Bs)(b:Nat):Prop:=b<B.w.heap.size/\¬ ∃ id hd,B.own id=some hd/\b∈hd.bs
structure Fr (B:Bs)(own:Own)(w:World):Prop where
 ids:∀ (id:Nat) (hd:Hd),B.own id=some hd->∃ hd',own id=some hd'/\hd.like hd'
 base:∀ (id:Nat) (hd:Hd) (b:Nat),own id=some hd->b∈hd.bs->¬Old B b
 os:w.os=B.w.os
 tape:w.tape=B.w.tape
 output:w.output=B.w.output
 size:B.w.heap.size<=w.heap.size
 block:∀ k,Old B k->w.heap[k]? =B.w.heap[k]?
theorem Fr.refl (B:Bs):Fr B B.own B.w:=⟨fun _ hd h=>⟨hd,h,.refl _⟩,fun id hd _ h hb ho=>ho.2 ⟨id,hd,h,hb⟩,rfl,rfl,rfl,Nat.le_refl _,fun _ _=>rfl⟩
theorem Fr.below {B:Bs}{own:Own}{w w':World}(h:Fr B own w)(hb:Below w.heap.size w w'):Fr B own w':=
 ⟨h.ids,h.base,hb.os.trans h.os,hb.tape.trans h.tape,hb.output.trans h.output,Nat.le_trans h.size hb.size,fun k hk=>(hb.block k (Nat.lt_of_lt_of_le hk.1 h.size)).trans (h.block k hk)⟩
theorem Fr.drew {B:Bs}{own:Own}{w:World}(h:Fr B own w):Fr B own { w with drawn:=w.drawn+1}:=⟨h.ids,h.base,h.os,h.tape,h.output,h.size,h.block⟩
theorem Fr.trans {B:Bs}{own own':Own}{w w':World}(h:Fr B own w)(h':Fr { w:=w,own:=own} own' w'):Fr B own' w':=by
 have hold:∀ k,Old B k->Old { w:=w,own:=own} k:=fun k hk=>⟨Nat.lt_of_lt_of_le hk.1 h.size,fun⟨id,hd,hm,hb⟩ =>h.base id hd k hm hb hk⟩;refine⟨fun id hd hi=>?_,fun id hd b hi hb ho=>h'.base id hd b hi hb (hold b ho),h'.os.trans h.os,h'.tape.trans h.tape,h'.output.trans h.output,Nat.le_trans h.size h'.size,
  fun k hk=>(h'.block k (hold k hk)).trans (h.block k hk)⟩
 obtain⟨hd1,e1,l1⟩:=h.ids id hd hi;obtain⟨hd2,e2,l2⟩:=h'.ids id hd1 e1;exact⟨hd2,e2,l1.trans l2⟩
theorem Fr.goes {F:Nat->Prop}{own own':Own}{w w':World}(h:Fr { w:=w,own:=own} own' w'):Goes F own w own' w':=
 ⟨h.ids,fun b hb hn=>by
  have ho:Old { w:=w,own:=own} b:=⟨hb,fun⟨id,hd,hm,he⟩ =>hn (.inr ⟨id,hd,hm,he⟩)⟩;refine⟨?_,h.block b ho⟩;rintro (hf| ⟨id,hd,hm,he⟩)
  ·exact hn (.inl hf)
  ·exact h.base id hd b hm he ho,h.size⟩
theorem Fr.of_step {own own':Own}{w w':World}(ids:∀ (id:Nat) (hd:Hd),own id=some hd->∃ hd',own' id=some hd'/\hd.like hd')
  (bs:∀ id hd b,own' id=some hd->b∈hd.bs->(∃ id' hd',own id'=some hd'/\b∈hd'.bs)\/w.heap.size<=b)
  (block:∀ b,b<w.heap.size->(¬ ∃ id hd,own id=some hd/\b∈hd.bs)->w'.heap[b]? =w.heap[b]?) (size:w.heap.size<=w'.heap.size)
  (os:w'.os=w.os) (tape:w'.tape=w.tape) (output:w'.output=w.output):Fr { w:=w,own:=own} own' w':=
 ⟨ids,fun id hd b h1 h2 ho=>by
  rcases bs id hd b h1 h2 with h|h
  ·exact ho.2 h
  ·have:=ho.1;simp at this;omega,os,tape,output,size,fun k hk=>block k hk.1 hk.2⟩
theorem wi {w:World}{b o:Nat}{v:Value}(h:w.cell? ⟨b,o,none⟩=some v):b<w.heap.size:=World.block_lt_of_cell? w _ h
theorem kD {w w':World}{b:Nat}(h:w'.heap[b]? =w.heap[b]?)(o:Nat):w'.cell? ⟨b,o,none⟩=w.cell? ⟨b,o,none⟩:=by
 simp only[World.cell?,h]
theorem iK {w:World}{b:Nat}{o:Obj}(h:w.heap[b]? =some o):b<w.heap.size:=by
 rcases Nat.lt_or_ge b w.heap.size with h'|h'
 ·exact h'
 ·simp[Array.getElem?_eq_none h']at h
structure Carries (F:Nat->Prop)(own:Own)(w:World)(F':Nat->Prop)(own':Own)(w':World):Prop where
 ids:∀ (id:Nat) (hd:Hd),own id=some hd->∃ hd',own' id=some hd'/\hd.like hd'
 keep:∀ b,b<w.heap.size->¬bD F own b->¬bD F' own' b/\w'.heap[b]? =w.heap[b]?
theorem Goes.carries {F:Nat->Prop}{own own':Own}{w w':World}(g:Goes F own w own' w'):Carries F own w F own' w':=⟨g.ids,g.keep⟩
theorem Rel.carry {F F':Nat->Prop}{own own':Own}{w w':World}(g:Carries F own w F' own' w'){s:SV}{v:Value}(h:Rel F own w s v):Rel F' own' w' s v:=by
 induction h with
 |any v=>exact .any v
 |v x=>exact .v x
 |ptr h1 h2=>obtain⟨hd',e,l⟩:=g.ids _ _ h1;exact .ptr e (l.1.trans h2)
 |os h1 h2=>obtain⟨hd',e,l⟩:=g.ids _ _ h1;rw[<-l.2.1]at h2 |-;exact .os e h2
 |e0=>exact .e0
 |rc _ ih=>exact .rc ih
 |rp h1 h2 h3=>obtain⟨hd',e,l⟩:=g.ids _ _ h1;exact .rp e (l.2.1.trans h2) h3
 |gr h1 h2 h3=>obtain⟨hd',e,l⟩:=g.ids _ _ h1;exact .gr e (by rw[l.2.2];exact h2) h3
 |gp h1 h2 h3=>obtain⟨hd',e,l⟩:=g.ids _ _ h1;exact .gp e (by rw[l.2.2];exact h2) h3
 |vw h1 h2 h3=>obtain⟨hd',e,l⟩:=g.ids _ _ h1;exact .vw e (by rw[l.2.1];exact h2) h3
 |ep c h1 _ ih=>
  refine .ep c (fun j s hj=>?_) ih;obtain⟨hn,hc⟩:=h1 j s hj;obtain⟨hn',hk⟩:=g.keep _ (wi hc) hn;exact⟨hn',by rw[kD hk];exact hc⟩
 |rs c h0 h0' h1 _ ih=>
  refine .rs c h0 h0' (fun i x hi j s hj=>?_) ih;obtain⟨hn,hc⟩:=h1 i x hi j s hj;obtain⟨hn',hk⟩:=g.keep _ (wi hc) hn;exact⟨hn',by rw[kD hk];exact hc⟩
 |rs0=>exact .rs0
 |ls c h0 h1 _ ih=>
  refine .ls c h0 (fun j s hj=>?_) ih;obtain⟨hn,hc⟩:=h1 j s hj;obtain⟨hn',hk⟩:=g.keep _ (wi hc) hn;exact⟨hn',by rw[kD hk];exact hc⟩
 |rm ck cv es clock h0 h1 h2 h3 _ _ ih1 ih2=>
  obtain⟨hn',hk⟩:=g.keep _ (iK h1) h0;exact .rm ck cv es clock hn' (by rw[hk];exact h1) h2 h3 ih1 ih2
 |rm0=>exact .rm0
 |agg h0 _ ih=>exact .agg h0 ih
 |tup h0 _ ih=>exact .tup h0 ih
 |fn h0 h0' _ _ ih1 ih2=>exact .fn h0 h0' ih1 ih2
theorem Rel.mono {F:Nat->Prop}{own own':Own}{w w':World}(g:Goes F own w own' w'){s:SV}{v:Value}(h:Rel F own w s v):Rel F own' w' s v:=h.carry g.carries
theorem Goes.refl (F:Nat->Prop)(own:Own)(w:World):Goes F own w own w:=⟨fun _ hd h=>⟨hd,h,.refl _⟩,fun _ _ h=>⟨h,rfl⟩,Nat.le_refl _⟩
theorem iL (w:World)(o:Obj)(b:Nat)(h:b<w.heap.size):(w.alloc o).heap[b]? =w.heap[b]?:=Below.heap_alloc w o b h
theorem fR (w:World)(o:Obj):(w.alloc o).heap[w.heap.size]? =some o:=by show(w.heap.push o)[w.heap.size]? =_;simp
theorem et (w:World)(o:Obj):(w.alloc o).heap.size=w.heap.size+1:=by show(w.heap.push o).size=_;simp
theorem Goes.below (F:Nat->Prop)(own:Own){w w':World}(h:Below w.heap.size w w'):Goes F own w own w':=
 ⟨fun _ hd h=>⟨hd,h,.refl _⟩,fun b hb hn=>⟨hn,h.block b hb⟩,h.size⟩
theorem jG (w:World)(o:Obj):Below w.heap.size w (w.alloc o):=(Below.refl _ _).alloc (Nat.le_refl _) o
theorem dx {α:Type}:∀ (l:List α) (i:Nat),nth l i=l[i]?
 | [],i=>by simp[nth]
 |x::r,0=>by simp[nth]
 |x::r,i+1=>by simp[nth,dx r i]
theorem kl:∀ l:List SV,sz l=l.length
 | [] =>rfl
 |x::r=>by simp[sz,kl r]
theorem wj:∀ (n:Nat) (l:List SV),cut n l=l.take n
 |0,l=>by simp[cut]
 |n+1,[] =>by simp[cut]
 |n+1,x::r=>by simp[cut,wj n r]
theorem rZ:∀ (n:Nat) (l:List SV),xx n l=l.drop n
 |0,l=>by simp[xx]
 |n+1,[] =>by simp[xx]
 |n+1,x::r=>by simp[xx,rZ n r]
theorem pl:∀ (l:List SV) (i:Nat) (s:SV),su l i s=l.set i s
 | [],i,s=>by simp[su]
 |x::r,0,s=>by simp[su]
 |x::r,i+1,s=>by simp[su,pl r i s]
theorem ik:∀ (vs cells:List SV) (off:Nat),(setCells cells off vs).length=cells.length
 | [],cells,off=>rfl
 |x::xs,cells,off=>by simp[setCells,ik xs,pl]
theorem iM:∀ (vs cells:List SV) (off:Nat),off+vs.length<=cells.length->∀ j,(setCells cells off vs)[j]? =if off<=j/\j<off+vs.length then vs[j - off]? else cells[j]?
 | [],cells,off,_,j=>by simp only[setCells,List.length_nil];rw[if_neg (by omega)]
 |x::xs,cells,off,h,j=>by
  simp only[List.length_cons]at h;rw[setCells,iM xs _ _ (by simp[pl];omega),pl];by_cases hj:off+1<=j/\j<off+1+xs.length
  ·rw[if_pos hj,if_pos (by simp;omega),show j - off=(j - (off+1))+1 by omega,List.getElem?_cons_succ]
  ·rw[if_neg hj,List.getElem?_set];by_cases hjo:off=j
   ·subst hjo;rw[if_pos rfl,if_pos (by omega),if_pos (by simp)];simp
   ·rw[if_neg hjo,if_neg (by simp;omega)]
theorem jy:∀ (h:List Ob) (id:Nat),ae h id=(h[id]?).getD .dead
 | [],id=>by simp[ae]
 |o::r,0=>by simp[ae]
 |o::r,n+1=>by simp[ae,jy r n]
theorem b8:∀ (h:List Ob) (id:Nat) (x:Ob) (j:Nat),ae (bf h id x) j=if id=j then x else ae h j
 | [],0,x,j=>by cases j <;>simp[bf,ae]
 | [],n+1,x,j=>by
  cases j with
  |zero=>simp[bf,ae]
  |succ j=>simp only[bf,ae,b8 [] n x j];by_cases h:n=j <;>simp[h]
 |o::r,0,x,j=>by cases j <;>simp[bf,ae]
 |o::r,n+1,x,j=>by
  cases j with
  |zero=>simp[bf,ae]
  |succ j=>simp only[bf,ae,b8 r n x j];by_cases h:n=j <;>simp[h]
theorem bv:∀ (h:List Ob) (id:Nat) (x:Ob),(bf h id x).length=if id<h.length then h.length else id+1
 | [],0,x=>by simp[bf]
 | [],n+1,x=>by simp[bf,bv [] n x]
 |o::r,0,x=>by simp[bf]
 |o::r,n+1,x=>by simp only[bf,List.length_cons,bv r n x];by_cases h:n<r.length <;>simp[h] <;>omega
theorem g_ {h:List Ob}{id:Nat}(hi:h.length<=id):ae h id=.dead:=by rw[jy,List.getElem?_eq_none hi];rfl
theorem jH (h l:List Ob)(id:Nat):ae (h++l) id=if id<h.length then ae h id else ae l (id - h.length):=by
 rw[jy,jy,jy,List.getElem?_append];split <;>rfl
theorem sQ {F:Nat->Prop}{own:Own}{w:World}{s:SV}{v:Value}{l:List SV}(h:Rel F own w s v)(hf:jf s=some l):
  v.cells.size=l.length/\∀ (j:Nat) (x:SV),l[j]? =some x->Rel F own w x (v.cells.getD j undef):=by
 have one:∀ {s:SV} {v:Value},Rel F own w s v->v.cells= #[v]->jf s=some [s]->jf s=some l->v.cells.size=l.length/\∀ (j:Nat) (x:SV),l[j]? =some x->Rel F own w x (v.cells.getD j undef):=by
  intro s v h hc h1 h2;rw[h1]at h2;simp only[Option.some.injEq]at h2;subst h2;rw[hc];refine⟨rfl,fun j x hj=>?_⟩;cases j with
  |zero=>simp at hj;subst hj;simpa using h
  |succ j=>simp at hj
 cases h with
 |any=>simp[jf]at hf
 |v=>
  cases v <;>first|exact one (.v _) rfl rfl hf|simp[jf]at hf
  subst hf;rename_i cs;refine⟨by simp[Value.cells],fun j y hj=>?_⟩;simp at hj;obtain⟨z,hz,rfl⟩:=hj;simp[Value.cells,hz];exact .v _
 |ptr h1 h2=>exact one (.ptr h1 h2) rfl rfl hf
 |os h1 h2=>exact one (.os h1 h2) (sP h2) rfl hf
 |e0=>exact one .e0 rfl rfl hf
 |rc h=>exact one (.rc h) rfl rfl hf
 |rp h1 h2 h3=>exact one (.rp h1 h2 h3) rfl rfl hf
 |gr h1 h2 h3=>exact one (.gr h1 h2 h3) (sP h3) rfl hf
 |gp h1 h2 h3=>exact one (.gp h1 h2 h3) rfl rfl hf
 |vw h1 h2 h3=>exact one (.vw h1 h2 h3) rfl rfl hf
 |ep c h1 h2=>exact one (.ep c h1 h2) rfl rfl hf
 |rs c h0 h0' h1 h2=>exact one (.rs c h0 h0' h1 h2) rfl rfl hf
 |rs0=>exact one .rs0 rfl rfl hf
 |ls c h0 h1 h2=>exact one (.ls c h0 h1 h2) rfl rfl hf
 |rm ck cv es clock h0 h1 h2 h3 h4 h5=>exact one (.rm ck cv es clock h0 h1 h2 h3 h4 h5) rfl rfl hf
 |rm0=>exact one .rm0 rfl rfl hf
 |agg h0 h1=>simp[jf]at hf;subst hf;exact⟨h0,h1⟩
 |tup=>simp[jf]at hf
 |fn h0 h0' h1 h2=>exact one (.fn h0 h0' h1 h2) rfl rfl hf
theorem nbl {n m:Nat}(h:Nat.ble n m=true):n<=m:=Nat.le_of_ble_eq_true h
theorem ni {k:Tag}{x:k.T}{j:Nat}{s:SV}(h:(cellsOf k x)[j]? =some s):(∃ y,s=.v y/\jF y=true)\/(∃ (k':Tag) (l:List k'.T),s=.rs k' l/\rank k'<rank k)\/(∃ (k' k2:Tag) (l:List (k'.T×k2.T)),s=.rm k' k2 l/\rank k'<rank k/\rank k2<rank k)\/∃ f,s=.fn f [] []/\rank k≠0:=by
 have hm:=List.mem_of_getElem? h;cases k <;>simp only[cellsOf,List.mem_cons,List.not_mem_nil,or_false]at hm <;>
  (repeat' (rcases hm with hm|hm)) <;>first|exact .inl ⟨_,rfl,rfl⟩ |exact .inr (.inl ⟨_,_,rfl,by decide⟩) |exact .inr (.inr (.inl ⟨_,_,_,rfl,by decide,by decide⟩)) |(cases x <;>first|exact .inl ⟨_,rfl,rfl⟩ |exact .inr (.inr (.inr ⟨_,rfl,by decide⟩)))
section
variable {P:Program}{F:Nat->Prop}{own:Own}{w:World}
theorem bo {x v:Value}(h:Rel F own w (.v x) v):v=x:=by cases h;rfl
theorem r6 {k:Tag}{x:k.T}{j:Nat}{s:SV}{u:Value}(h:(cellsOf k x)[j]? =some s)(hr:Rel F own w s u):jF u=true:=by
 rcases ni h with⟨y,rfl,hy⟩ | ⟨k',l,rfl,_⟩ | ⟨k',k2,l,rfl,_⟩ | ⟨f,rfl,_⟩
 ·rw[bo hr];exact hy
 ·cases hr <;>rfl
 ·cases hr <;>rfl
 ·cases hr <;>rfl
def RowAt (F:Nat->Prop)(own:Own)(w:World)(k:Tag)(l:List k.T)(o:Nat)(cs:Array Value):Prop:=
 ∀ (i:Nat) (x:k.T),l[i]? =some x->∀ (j:Nat) (s:SV),(cellsOf k x)[j]? =some s->∃ u,cs[o+i*aa k+j]? =some u/\Rel F own w s u
def RowRel (F:Nat->Prop)(own:Own)(w:World)(k:Tag)(l:List k.T)(v:Value)(bs:List Nat):Prop:=
 (∃ a,v=.slice a 0 0/\l=[]/\bs=[])\/
 ∃ b o cap cs ty,v=.slice (some ⟨b,o,none⟩) l.length cap/\bs=[b]/\w.heap[b]? =some (.cells cs ty (0,0))/\o+cap*aa k<=cs.size/\l.length<=cap/\l.length<=bR/\RowAt F own w k l o cs
def MpAt (F:Nat->Prop)(own:Own)(w:World)(kk vk:Tag)(l:List (kk.T×vk.T))(es:Array MapEntry):Prop:=
 es.size=l.length/\∀ (i:Nat) (x:kk.T×vk.T),l[i]? =some x->∃ e,es[i]? =some e/\True/\Rel F own w (svT kk x.1) e.key/\Rel F own w (svT vk x.2) e.val
def ct (kk vk:Tag)(l:List (kk.T×vk.T)):Option (Nat×Option kk.T)->List (kk.T×vk.T)
 |some (_,some x) =>if(eI l x).isSome then l else l++[(x,di vk)]
 |_=>l
theorem fL {kk vk:Tag}{l:List (kk.T×vk.T)}{p:Option (Nat×Option kk.T)}(h:noE p=true):ct kk vk l p=l:=by
 cases p with
 |none=>rfl
 |some q=>obtain⟨i,q⟩:=q;cases q with
  |none=>rfl
  |some x=>cases h
def d8 (es:Array MapEntry):List Nat:=es.toList.map (·.born)
def Stamped (es:Array MapEntry)(clock:Nat):Prop:=(d8 es).Nodup/\∀ n∈d8 es,n<clock
def stV (ss:List Nat)(clock:Nat):List Value:=.int .i64 clock::ss.map fun n=>.int .i64 (n:Nat)
def PendOk (own:Own)(kk vk:Tag)(l:List (kk.T×vk.T))(es:Array MapEntry)(clock:Nat):Option (Nat×Option kk.T)->Prop
 |none=>True
 |some (nx,some x) =>∃ hd2 e,own nx=some hd2/\es[kf kk vk l x]? =some e/\hd2.v=.int .i64 e.born
 |some (nx,none) =>∃ hd2,own nx=some hd2/\hd2.vs=stV (d8 es) clock
def GridIn (F:Nat->Prop)(own:Own)(w:World)(k:Tag):List (List k.T)->List Value->List Nat->Prop
 | [],[],bs=>bs=[]
 |l::ls,v::vs,bs=>∃ b1 b2,bs=b1++b2/\jF v=true/\RowRel F own w k l v b1/\GridIn F own w k ls vs b2
 |_,_,_=>False
def ObRel (F:Nat->Prop)(own:Own)(w:World)(hd:Hd):Ob->Prop
 | .cells l=>∃ b cs ty,hd.p=some b/\hd.bs=[b]/\w.heap[b]? =some (.cells cs ty (0,0))/\cs.size=l.length/\∀ (j:Nat) (s:SV),l[j]? =some s->Rel F own w s (cs.getD j undef)
 | .dead=>True
 | .row k l=>RowRel F own w k l hd.v hd.bs
 | .mp kk vk l pend=>∃ b es clock,hd.v=.map (some b)/\hd.bs=[b]/\w.heap[b]? =some (.map es clock)/\MpAt F own w kk vk (ct kk vk l pend) es/\Stamped es clock/\PendOk own kk vk l es clock pend
 | .grid k l=>(hd.v=.slice none 0 0/\l=[]/\hd.vs=[]/\hd.bs=[])\/
   ∃ b o cap cs ty bs,hd.v=.slice (some ⟨b,o,none⟩) l.length cap/\hd.bs=b::bs/\hd.bs.Nodup/\w.heap[b]? =some (.cells cs ty (0,0))/\o+cap<=cs.size/\l.length<=cap/\l.length<=bR/\
    (∀ (i:Nat) (v:Value),hd.vs[i]? =some v->cs[o+i]? =some v)/\GridIn F own w k l hd.vs bs
 | .ab r=>hd.v=r.yv/\r.R (fun b=>bD F own b/\b ∉ hd.bs) hd.bs w
 | .raw o=>∃ b,hd.p=some b/\hd.bs=[b]/\w.heap[b]? =some o
 | .mi mid n left cur=>∃ b,hd.p=some b/\hd.bs=[b]/\∀ i,mid=some i->∃ (hdm:Hd) (bm:Nat) (seen:Array Nat) (c:Nat) (ss:List Nat),own i=some hdm/\hdm.v=.map (some bm)/\w.heap[b]? =some (.mapIter (some bm) c seen c)/\hd.vs=stV ss c/\ss.length=n/\left.Nodup/\(∀ k,k∈left↔∃ s,ss[k]? =some s/\¬s∈seen.toList)/\∀ j,cur=some j->∃ s,ss[j]? =some s/\seen.back? =some s
 | .fwd n=>∀ i,n=some i->∃ hd2,own i=some hd2/\hd2.v=hd.v/\jF hd.v=true
 | .fz k l=>Rel F own w (.rs k l) hd.v
variable {F':Nat->Prop}{own':Own}{w':World}
theorem RowAt.carry (g:Carries F own w F' own' w'){k:Tag}{l:List k.T}{o:Nat}{cs:Array Value}(h:RowAt F own w k l o cs):RowAt F' own' w' k l o cs:=
 fun i x hi j s hj=>by obtain⟨u,h1,h2⟩:=h i x hi j s hj;exact⟨u,h1,h2.carry g⟩
theorem RowRel.carry (g:Carries F own w F' own' w'){k:Tag}{l:List k.T}{v:Value}{bs:List Nat}(hb:∀ b∈bs,w'.heap[b]? =w.heap[b]?)(h:RowRel F own w k l v bs):RowRel F' own' w' k l v bs:=by
 rcases h with h| ⟨b,o,cap,cs,ty,h1,h2,h3,h4,h5,h6,h7⟩
 ·exact .inl h
 ·exact .inr ⟨b,o,cap,cs,ty,h1,h2,by rw[hb b (by simp[h2])];exact h3,h4,h5,h6,h7.carry g⟩
theorem GridIn.carry (g:Carries F own w F' own' w'){k:Tag}:∀ {l:List (List k.T)} {vs:List Value} {bs:List Nat},(∀ b∈bs,w'.heap[b]? =w.heap[b]?)->GridIn F own w k l vs bs->GridIn F' own' w' k l vs bs
 | [],[],bs,_,h=>h
 |l::ls,v::vs,bs,hb,⟨b1,b2,h1,h0,h2,h3⟩ =>⟨b1,b2,h1,h0,h2.carry g fun b hbb=>hb b (by simp[h1,hbb]),GridIn.carry g (fun b hbb=>hb b (by simp[h1,hbb])) h3⟩
 | [],_::_,_,_,h=>h.elim
 |_::_,[],_,_,h=>h.elim
theorem MpAt.carry (g:Carries F own w F' own' w'){kk vk:Tag}{l:List (kk.T×vk.T)}{es:Array MapEntry}(h:MpAt F own w kk vk l es):MpAt F' own' w' kk vk l es:=
 ⟨h.1,fun i x hi=>by obtain⟨e,h1,h2,h3,h4⟩:=h.2 i x hi;exact⟨e,h1,h2,h3.carry g,h4.carry g⟩⟩
theorem PendOk.ids (g:∀ (id:Nat) (hd:Hd),own id=some hd->∃ hd',own' id=some hd'/\hd.like hd'){kk vk:Tag}{l:List (kk.T×vk.T)}{es:Array MapEntry}{clock:Nat}{p:Option (Nat×Option kk.T)}(h:PendOk own kk vk l es clock p):PendOk own' kk vk l es clock p:=by
 cases p with
 |none=>trivial
 |some q=>
  obtain⟨i,q⟩:=q;cases q with
  |some x=>
   obtain⟨hd2,e,h1,h2,h3⟩:=h;obtain⟨hd',e1,e2⟩:=g _ _ h1;exact⟨hd',e,e1,h2,e2.2.1.trans h3⟩
  |none=>
   obtain⟨hd2,h1,h2⟩:=h;obtain⟨hd',e1,e2⟩:=g _ _ h1;exact⟨hd',e1,e2.2.2.trans h2⟩
theorem ObRel.carry (g:Carries F own w F' own' w')(hsz:w.heap.size<=w'.heap.size){hd:Hd}(hb:∀ b∈hd.bs,w'.heap[b]? =w.heap[b]?){o:Ob}(h:ObRel F own w hd o):ObRel F' own' w' hd o:=by
 cases o with
 |cells l=>obtain⟨b,cs,ty,h1,h2,h3,h4,h5⟩:=h;exact⟨b,cs,ty,h1,h2,by rw[hb b (by simp[h2])];exact h3,h4,fun j s hj=>(h5 j s hj).carry g⟩
 |dead=>trivial
 |row k l=>exact RowRel.carry g hb h
 |mp kk vk l pend=>obtain⟨b,es,clock,h1,h2,h3,h4,h5,h6⟩:=h;exact⟨b,es,clock,h1,h2,by rw[hb b (by simp[h2])];exact h3,h4.carry g,h5,h6.ids g.ids⟩
 |grid k l=>
  rcases h with h| ⟨b,o,cap,cs,ty,bs,h1,h2,h3,h4,h5,h6,h7,h8,h9⟩
  ·exact .inl h
  ·exact .inr ⟨b,o,cap,cs,ty,bs,h1,h2,h3,by rw[hb b (by simp[h2])];exact h4,h5,h6,h7,h8,h9.carry g fun b' hb'=>hb b' (by simp[h2,hb'])⟩
 |ab r=>
  refine⟨h.1,r.loc _ _ _ w w' h.2 hsz (fun b hbl hn=>?_) (fun b hbl hn=>⟨?_,hn.2⟩)⟩
  ·by_cases hm:b∈hd.bs
   ·exact hb b hm
   ·exact(g.keep b hbl fun ho=>hn ⟨ho,hm⟩).2
  ·exact Classical.byContradiction fun ho=>(g.keep b hbl ho).1 hn.1
 |raw o=>obtain⟨b,h1,h2,h3⟩:=h;exact⟨b,h1,h2,by rw[hb b (by simp[h2])];exact h3⟩
 |mi mid n left cur=>
  obtain⟨b,h1,h2,h3⟩:=h;refine⟨b,h1,h2,fun i hi=>?_⟩;obtain⟨hdm,bm,seen,c,ss,k1,k2,k3,k4⟩:=h3 i hi;obtain⟨hd',e1,e2⟩:=g.ids _ _ k1;exact⟨hd',bm,seen,c,ss,e1,e2.2.1.trans k2,by rw[hb b (by simp[h2])];exact k3,k4⟩
 |fwd n=>
  intro i hi;obtain⟨hd2,k1,k2,k3⟩:=h i hi;obtain⟨hd',e1,e2⟩:=g.ids _ _ k1;exact⟨hd',e1,e2.2.1.trans k2,k3⟩
 |fz k l=>exact Rel.carry g h
structure Hp (F:Nat->Prop)(own:Own)(w:World)(h:List Ob):Prop where
 dom:∀ (id:Nat) (hd:Hd),own id=some hd->id<h.length
 foreign:∀ b,F b->b<w.heap.size
 apart:∀ (id:Nat) (hd:Hd) (b:Nat),own id=some hd->b∈hd.bs->¬F b
 inj:∀ (i j:Nat) (hi hj:Hd) (b:Nat),own i=some hi->own j=some hj->b∈hi.bs->b∈hj.bs->i=j
 lt:∀ (id:Nat) (hd:Hd) (b:Nat),own id=some hd->b∈hd.bs->b<w.heap.size
 obs:∀ (id:Nat),bZ (ae h id)=false->∃ hd,own id=some hd/\ObRel F own w hd (ae h id)
theorem Hp.at {h:List Ob}(hp:Hp F own w h){id:Nat}{o:Ob}(ho:ae h id=o)(hd:bZ o=false):∃ hd,own id=some hd/\ObRel F own w hd o:=by
 subst ho;exact hp.obs id hd
theorem Hp.upd {h h':List Ob}(hp:Hp F own w h)(g:Goes F own w own' w')(U:Nat->Prop)(hlen:h.length<=h'.length)
  (same:∀ id,¬U id->own' id=own id/\ae h' id=ae h id/\∀ hd b,own id=some hd->b∈hd.bs->w'.heap[b]? =w.heap[b]?)
  (new:∀ id hd,U id->own' id=some hd->id<h'.length/\∀ b∈hd.bs,b<w'.heap.size/\¬F b/\∀ j hj,j≠id->own' j=some hj->b ∉ hj.bs)
  (obs:∀ id,U id->bZ (ae h' id)=false->∃ hd,own' id=some hd/\ObRel F own' w' hd (ae h' id)):Hp F own' w' h':=by
 refine⟨fun id hd h1=>?_,fun b hb=>Nat.lt_of_lt_of_le (hp.foreign b hb) g.size,fun id hd b h1 h2=>?_,fun i j hi hj b h1 h2 h3 h4=>?_,fun id hd b h1 h2=>?_,fun id hd=>?_⟩
 ·by_cases hu:U id
  ·exact(new id hd hu h1).1
  ·rw[(same id hu).1]at h1;exact Nat.lt_of_lt_of_le (hp.dom id hd h1) hlen
 ·by_cases hu:U id
  ·exact((new id hd hu h1).2 b h2).2.1
  ·rw[(same id hu).1]at h1;exact hp.apart id hd b h1 h2
 ·by_cases hui:U i
  ·exact Classical.byContradiction fun hne=>((new i hi hui h1).2 b h3).2.2 j hj (fun e=>hne e.symm) h2 h4
  ·by_cases huj:U j
   ·exact Classical.byContradiction fun hne=>((new j hj huj h2).2 b h4).2.2 i hi (fun e=>hne e) h1 h3
   ·rw[(same i hui).1]at h1;rw[(same j huj).1]at h2;exact hp.inj i j hi hj b h1 h2 h3 h4
 ·by_cases hu:U id
  ·exact((new id hd hu h1).2 b h2).1
  ·rw[(same id hu).1]at h1;exact Nat.lt_of_lt_of_le (hp.lt id hd b h1 h2) g.size
 ·by_cases hu:U id
  ·exact obs id hu hd
  ·obtain⟨e1,e2,e3⟩:=same id hu;rw[e2]at hd |-;obtain⟨hdd,q1,q2⟩:=hp.obs id hd;exact⟨hdd,by rw[e1];exact q1,q2.carry g.carries g.size fun b hb=>e3 hdd b q1 hb⟩
theorem Hp.goes {h:List Ob}(hp:Hp F own w h)(g:Goes F own w own w')(hown:∀ (id:Nat) (hd:Hd) (b:Nat),own id=some hd->b∈hd.bs->w'.heap[b]? =w.heap[b]?):Hp F own w' h:=
 hp.upd g (fun _=>False) (Nat.le_refl _) (fun id _=>⟨rfl,rfl,fun hd b h1 h2=>hown id hd b h1 h2⟩) (fun _ _ hu=>hu.elim) (fun _ hu=>hu.elim)
theorem Hp.below {h:List Ob}(hp:Hp F own w h)(hb:Below w.heap.size w w'):Hp F own w' h:=
 hp.goes (Goes.below F own hb) fun id hd b h1 h2=>hb.block b (hp.lt id hd b h1 h2)
structure NxOk (own:Own)(h:List Ob)(nx:Nat):Prop where
 none:own nx=none
 dead:ae h nx=.dead
theorem Hp.nx {h:List Ob}(hp:Hp F own w h):NxOk own h h.length:=by
 refine⟨?_,g_ (Nat.le_refl _)⟩;cases ho:own h.length with
 |none=>rfl
 |some hd=>exact absurd (hp.dom _ _ ho) (Nat.lt_irrefl _)
def Own.set (own:Own)(id:Nat)(hd:Hd):Own:=fun j=>if j=id then some hd else own j
theorem Own.set_same (own:Own)(id:Nat)(hd:Hd):own.set id hd id=some hd:=by simp[Own.set]
theorem Own.set_other (own:Own){id j:Nat}(hd:Hd)(h:j≠id):own.set id hd j=own j:=by simp[Own.set,h]
structure Step (F:Nat->Prop)(own:Own)(w:World)(h':List Ob)(own':Own)(w':World):Prop where
 hp:Hp F own' w' h'
 fr:Fr { w:=w,own:=own} own' w'
 fresh:∀ id,own id=none->bZ (ae h' id)=true->own' id=none
theorem lK {h:List Ob}(hp:Hp F own w h){nx:Nat}(hn:NxOk own h nx){w1:World}(hw1:w1.heap=w.heap/\w1.os=w.os/\w1.tape=w.tape/\w1.output=w.output)(o:Obj)(ob:Ob)(hd:Hd)(hbs:hd.bs=[w.heap.size])
  (hob:∀ own':Own,Goes F own w own' (w1.alloc o)->ObRel F own' (w1.alloc o) hd ob) (hnd:bZ ob=false:=by rfl):Step F own w (bf h nx ob) (own.set nx hd) (w1.alloc o):=by
 obtain⟨q1,q2,q3,q4⟩:=hw1;have hheap:(w1.alloc o).heap=w.heap.push o:=by show w1.heap.push o=_;rw[q1]
 have hold:∀ b,b<w.heap.size->(w1.alloc o).heap[b]? =w.heap[b]?:=fun b hb=>by rw[hheap,Array.getElem?_push_lt hb];simp[hb]
 have hsz:(w1.alloc o).heap.size=w.heap.size+1:=by rw[hheap];simp
 have ids:∀ (id:Nat) (hdd:Hd),own id=some hdd->∃ hd',own.set nx hd id=some hd'/\hdd.like hd':=fun id hdd h1=>by
  have hne:id≠nx:=fun e=>by rw[e,hn.none]at h1;cases h1
  exact⟨hdd,by rw[Own.set_other _ _ hne];exact h1,.refl _⟩
 have fr:Fr { w:=w,own:=own} (own.set nx hd) (w1.alloc o):=Fr.of_step ids (fun id hdd b h1 h2=>by
   by_cases hid:id=nx
   ·subst hid;rw[Own.set_same]at h1;cases h1;rw[hbs]at h2;simp at h2;exact .inr (by omega)
   ·rw[Own.set_other _ _ hid]at h1;exact .inl ⟨id,hdd,h1,h2⟩) (fun b hb _=>hold b hb) (by omega) q2 q3 q4
 have g:Goes F own w (own.set nx hd) (w1.alloc o):=fr.goes;refine⟨hp.upd g (· =nx) (by rw[bv];split <;>omega) (fun id hid=>⟨Own.set_other _ _ hid,by rw[b8,if_neg (fun e=>hid e.symm)],fun hdd b h1 h2=>hold b (hp.lt id hdd b h1 h2)⟩) (fun id hdd hid h1=>?_) (fun id hid _=>?_),fr,fun id h1 h2=>?_⟩
 rotate_left 2
 ·by_cases e:id=nx
  ·subst e;rw[b8,if_pos rfl,hnd]at h2;cases h2
  ·rw[Own.set_other _ _ e];exact h1
 ·subst hid;rw[Own.set_same]at h1;cases h1;refine⟨by rw[bv];split <;>omega,fun b hb=>?_⟩;rw[hbs]at hb;simp at hb;subst hb;refine⟨by omega,fun hf=>Nat.lt_irrefl _ (hp.foreign _ hf),fun j hj hne h2 h3=>?_⟩;rw[Own.set_other _ _ hne]at h2;exact Nat.lt_irrefl _ (hp.lt j hj _ h2 h3)
 ·subst hid;refine⟨hd,Own.set_same _ _ _,?_⟩;rw[b8,if_pos rfl];exact hob _ g
theorem jm {h:List Ob}(hp:Hp F own w h){id:Nat}{hd:Hd}(h1:own id=some hd){b:Nat}(hb:b∈hd.bs)(hsz:w'.heap.size=w.heap.size)(hold:∀ k,k≠b->w'.heap[k]? =w.heap[k]?)(q2:w'.os=w.os)(q3:w'.tape=w.tape)(q4:w'.output=w.output)(ob:Ob)
  (hob:Goes F own w own w'->ObRel F own w' hd ob):Step F own w (bf h id ob) own w':=by
 have hlt:=hp.dom id hd h1;have fr:Fr { w:=w,own:=own} own w':=Fr.of_step (fun _ hdd h=>⟨hdd,h,.refl _⟩) (fun id hdd b h1 h2=>.inl ⟨id,hdd,h1,h2⟩) (fun k _ hn=>hold k fun e=>hn ⟨id,hd,h1,e▸hb⟩) (by omega) q2 q3 q4;refine⟨hp.upd fr.goes (· =id) (by rw[bv,if_pos hlt];omega) (fun j hj=>⟨rfl,by rw[b8,if_neg (fun e=>hj e.symm)],fun hdd b' h2 h3=>hold b' fun e=>hj (hp.inj j id hdd hd b' h2 h1 h3 (e▸hb))⟩) (fun j hdd hj h2=>?_) (fun j hj _=>?_),fr,fun _ h1 _=>h1⟩
 ·subst hj;rw[h1]at h2;cases h2;exact⟨by rw[bv,if_pos hlt];exact hlt,fun b' hb'=>⟨by rw[hsz];exact hp.lt j hd b' h1 hb',hp.apart j hd b' h1 hb',fun i hi hne h3 h4=>hne (hp.inj i j hi hd b' h3 h1 h4 hb')⟩⟩
 ·subst hj;refine⟨hd,h1,?_⟩;rw[b8,if_pos rfl];exact hob fr.goes
theorem uN {h:List Ob}(hp:Hp F own w h){id:Nat}{hd:Hd}(h1:own id=some hd)(ob:Ob)(hob:ObRel F own w hd ob):Step F own w (bf h id ob) own w:=by
 have hlt:=hp.dom id hd h1;have fr:Fr { w:=w,own:=own} own w:=Fr.of_step (fun _ hdd h=>⟨hdd,h,.refl _⟩) (fun id hdd b h1 h2=>.inl ⟨id,hdd,h1,h2⟩) (fun _ _ _=>rfl) (Nat.le_refl _) rfl rfl rfl;refine⟨hp.upd fr.goes (· =id) (by rw[bv,if_pos hlt];omega) (fun j hj=>⟨rfl,by rw[b8,if_neg (fun e=>hj e.symm)],fun _ _ _ _=>rfl⟩) (fun j hdd hj h2=>?_) (fun j hj _=>?_),fr,fun _ h1 _=>h1⟩
 ·subst hj;rw[h1]at h2;cases h2;exact⟨by rw[bv,if_pos hlt];exact hlt,fun b' hb'=>⟨hp.lt j hd b' h1 hb',hp.apart j hd b' h1 hb',fun i hi hne h3 h4=>hne (hp.inj i j hi hd b' h3 h1 h4 hb')⟩⟩
 ·subst hj;exact⟨hd,h1,by rw[b8,if_pos rfl];exact hob⟩
theorem AP {ss ss':List Nat}{c c':Nat}(h:stV ss c=stV ss' c'):c=c'/\ss=ss':=by
 unfold stV at h;simp only[List.cons.injEq,Value.int.injEq,true_and]at h;refine⟨by omega,?_⟩;have h2:=h.2;clear h;induction ss generalizing ss' with
 |nil=>cases ss' with
  |nil=>rfl
  |cons a r=>cases h2
 |cons a r ih=>cases ss' with
  |nil=>cases h2
  |cons a' r'=>
   simp only[List.map_cons,List.cons.injEq,Value.int.injEq,true_and]at h2;rw[ih h2.2,show a=a' by omega]
theorem aY {t:TypeId}{ti:TI}(h:cr P t=some ti):∃ i d z,P.info? t=some i/\P.underlying t=some d/\i.zero=some z/\mY P d=true/\ti=ci P t i d:=by
 unfold cr at h;split at h
 ·rename_i i d hi hd;cases hz:i.zero with
  |none=>simp[hz]at h
  |some z=>
   simp only[hz,Option.isSome_some,Bool.true_and]at h;cases hq:mY P d with
   |false=>simp[hq]at h
   |true=>simp[hq]at h;exact⟨i,d,z,hi,hd,hz,hq,h.symm⟩
 ·cases h
theorem cm {t:TypeId}{i:TypeInfo}(h:P.info? t=some i):(sizeOf t).run P w=.ok i.size w:=by
 simp[sizeOf,typeInfo,h]
theorem nM {t:TypeId}{d:TypeDesc}(h:P.underlying t=some d):(isAgg t).run P w=.ok (fJ P t) w:=by
 simp only[isAgg,Sem.run_bind,run_underlying h,Result.andThen_ok,fJ,h];cases d <;>simp
theorem il (b o n:Nat):Addr.add ⟨b,o,none⟩ n=⟨b,o+n,none⟩:=by unfold Addr.add;split <;>simp_all
theorem bP {b:Nat}{cs:Array Value}{ty:TypeId}{fr:Nat×Nat}(h:w.heap[b]? =some (.cells cs ty fr))(j:Nat):w.cell? ⟨b,j,none⟩=cs[j]?:=by
 simp[World.cell?,h]
theorem gk {b:Nat}{cs:Array Value}{ty:TypeId}(h:w.heap[b]? =some (.cells cs ty (0,0)))(j:Nat):w.frozen? ⟨b,j,none⟩=false:=by
 simp[World.frozen?,h]
theorem pm {t:TypeId}{ti:TI}(ht:cr P t=some ti){l:List SV}{b o off:Nat}(c:Nat->Value)
  (hc:∀ (j:Nat) (s:SV),l[j]? =some s->w.cell? ⟨b,o+j,none⟩=some (c j)/\Rel F own w s (c j)) {s':SV} (hp:jY ti.agg ti.size l off=some s'):
  ∃ u,(loadVar t ⟨b,o+off,none⟩).run P w=.ok u w/\Rel F own w s' u:=by
 obtain⟨i,d,z,hi,hd,hz,hq,rfl⟩:=aY ht;simp only[ci]at hp;simp only[loadVar,Sem.run_bind,nM hd,Result.andThen_ok];cases ha:fJ P t with
 |true=>
  simp only[jY,ha,cond_true,kl,wj,rZ]at hp;cases hb:Nat.ble (off+i.size) l.length with
  |false=>simp[hb]at hp
  |true=>
   simp only[hb,cond_true,Option.some.injEq]at hp;subst hp;have hle:off+i.size<=l.length:=nbl hb;simp only[if_true,Sem.run_bind,cm hi,Result.andThen_ok];rw[run_loadCells w ⟨b,o+off,none⟩ i.size (fun j=>c (off+j)) (fun j hj=>by
    have:=(hc (off+j) _ (List.getElem?_eq_getElem (by omega))).1;rw[il,show o+off+j=o+(off+j) by omega];exact this)]
   refine⟨_,rfl,.agg (by simp;omega) fun j s hj=>?_⟩;have hj':j<i.size:=by
    rcases Nat.lt_or_ge j i.size with h|h
    ·exact h
    ·rw[List.getElem?_take,if_neg (by omega)]at hj;cases hj
   rw[List.getElem?_take,if_pos hj',List.getElem?_drop]at hj;simp only[Array.getD_eq_getD_getElem?];simp[hj'];exact(hc (off+j) s hj).2
 |false=>
  simp only[jY,ha,cond_false,dx]at hp;obtain⟨h1,h2⟩:=hc _ _ hp;refine⟨c off,?_,h2⟩;simp[h1]
theorem mv {o:Option SV}{s:SV}(h:lJ o=.val s):o=some s:=by
 cases o with
 |none=>simp[lJ]at h
 |some x=>simp[lJ]at h;rw[h]
theorem jI {α:Type}{l:List α}{i:Nat}{d:α}(h:i<l.length):l[i]? =some (l.getD i d):=by simp[List.getD,h]
theorem RowAt.get {k:Tag}{l:List k.T}{o:Nat}{cs:Array Value}(h:RowAt F own w k l o cs){i:Nat}(hi:i<l.length){j:Nat}{s:SV}(hj:(cellsOf k (l.getD i (di k)))[j]? =some s):
  cs[o+i*aa k+j]? =some (cs.getD (o+i*aa k+j) undef)/\Rel F own w s (cs.getD (o+i*aa k+j) undef):=by
 obtain⟨u,h1,h2⟩:=h i _ (jI hi) j s hj;have:cs.getD (o+i*aa k+j) undef=u:=by simp[Array.getD_eq_getD_getElem?,h1]
 rw[this];exact⟨h1,h2⟩
theorem GridIn.get {k:Tag}:∀ {l:List (List k.T)} {vs:List Value} {bs:List Nat} {i:Nat} {v:Value},GridIn F own w k l vs bs->vs[i]? =some v->∃ b1,jF v=true/\i<l.length/\RowRel F own w k (l.getD i []) v b1/\∀ b∈b1,b∈bs
 | [],[],bs,i,v,_,h=>by simp at h
 |l::ls,u::vs,bs,0,v,⟨b1,b2,h1,h0,h2,h3⟩,h=>by simp at h;subst h;exact⟨b1,h0,by simp,h2,fun b hb=>by simp[h1,hb]⟩
 |l::ls,u::vs,bs,i+1,v,⟨b1,b2,h1,h0,h2,h3⟩,h=>by
  obtain⟨b3,q1,q2,q3,q4⟩:=GridIn.get h3 (by simpa using h);exact⟨b3,q1,by simp;omega,by simpa using q3,fun b hb=>by simp[h1,q4 b hb]⟩
 | [],_::_,_,_,_,h,_=>h.elim
 |_::_,[],_,_,_,h,_=>h.elim
theorem GridIn.len {k:Tag}:∀ {l:List (List k.T)} {vs:List Value} {bs:List Nat},GridIn F own w k l vs bs->vs.length=l.length
 | [],[],_,_=>rfl
 |l::ls,u::vs,bs,⟨b1,b2,h1,h0,h2,h3⟩ =>by simp[GridIn.len h3]
 | [],_::_,_,h=>h.elim
 |_::_,[],_,h=>h.elim
theorem xK {h:List Ob}(hp:Hp F own w h){t:TypeId}{ti:TI}(ht:cr P t=some ti){s s':SV}{v:Value}(hr:Rel F own w s v)(hl:jE ti h s=.val s'):
  ∃ u,(Instr.loadAt t v).run P w=.ok u w/\Rel F own w s' u:=by
 cases hr with
 |ptr h1 h2=>
  rename_i id off b hd;simp only[jE]at hl;cases ho:ae h id with
  |cells l=>
   rw[ho]at hl;have hpo:=mv hl;obtain⟨hd',e0,b',cs,ty,e1,e2,e3,e4,e5⟩:=hp.at ho rfl;rw[h1]at e0;cases e0;rw[h2]at e1;cases e1;have:=pm (P:=P) (w:=w) (F:=F) (own:=own) (b:=b) (o:=0) (off:=off) ht (fun j=>cs.getD j undef) (fun j s hj=>by
    refine⟨?_,e5 j s hj⟩;have hjl:j<cs.size:=by rw[e4];exact(List.getElem?_eq_some_iff.1 hj).1
    rw[Nat.zero_add,bP e3];simp[hjl]) hpo
   simpa[Instr.loadAt,Instr.sureAddr]using this
  |_=>rw[ho]at hl;simp[pd]at hl
 |ep c h1 h2=>
  rename_i cells off b o;simp only[jE]at hl;have hpo:=mv hl;have:=pm (P:=P) (w:=w) (F:=F) (own:=own) (b:=b) (o:=o) (off:=off) ht c (fun j s hj=>⟨(h1 j s hj).2,h2 j s hj⟩) hpo;simpa[Instr.loadAt,Instr.sureAddr]using this
 |rp h1 h2 h3=>
  rename_i szt id off n cap b o i hd;simp only[jE]at hl;cases ho:ae h id with
  |row k l=>
   rw[ho]at hl;simp only[sA]at hl;cases hb:Nat.beq szt (aa k)with
   |false=>rw[hb]at hl;cases hl
   |true=>
    rw[hb]at hl;have hsz:=Nat.eq_of_beq_eq_true hb;have hpo:=mv hl;obtain⟨hd',e0,e⟩:=hp.at ho rfl;rw[h1]at e0;cases e0;rcases e with⟨a,e1,_⟩ | ⟨b',o',cap',cs,ty,e1,e2,e3,e4,e5,e6,e7⟩
    ·rw[h2]at e1;cases e1;omega
    ·rw[h2]at e1;simp only[Value.slice.injEq,Option.some.injEq,Addr.mk.injEq]at e1;obtain⟨⟨rfl,rfl,_⟩,rfl,rfl⟩:=e1;have:=pm (P:=P) (w:=w) (F:=F) (own:=own) (b:=b) (o:=o+i.toNat*szt) (off:=off) ht (fun j=>cs.getD (o+i.toNat*aa k+j) undef) (fun j s hj=>by
      have:=e7.get h3 hj;rw[bP e3,hsz];exact this) hpo
     simpa[Instr.loadAt,Instr.sureAddr]using this
  |grid k l=>
   rw[ho]at hl;simp only[sA]at hl;cases hb:Nat.beq szt 1&&Nat.beq off 0&& !ti.agg with
   |false=>rw[hb]at hl;cases hl
   |true=>
    rw[hb]at hl;simp only[Bool.and_eq_true,Bool.not_eq_true']at hb;have hs1:=Nat.eq_of_beq_eq_true hb.1.1;have hs2:=Nat.eq_of_beq_eq_true hb.1.2;subst hs1;subst hs2;simp only[cond_true,OR.val.injEq]at hl;subst hl;obtain⟨hd',e0,e⟩:=hp.at ho rfl;rw[h1]at e0;cases e0;rcases e with⟨e1,_⟩ | ⟨b',o',cap',cs,ty,bs,e1,e2,e3,e4,e5,e6,e7,e8,e9⟩
    ·rw[h2]at e1;cases e1
    ·rw[h2]at e1;simp only[Value.slice.injEq,Option.some.injEq,Addr.mk.injEq]at e1;obtain⟨⟨rfl,rfl,_⟩,rfl,rfl⟩:=e1;have hlen:=e9.len;have hv:hd.vs[i.toNat]? =some (hd.vs.getD i.toNat undef):=jI (by rw[hlen];exact h3);obtain⟨b1,q1,q2,q3,q4⟩:=e9.get hv;refine⟨_,?_,.gr h1 hv q1⟩;obtain⟨i',d,z,hi,hdd,hz,hq,rfl⟩:=aY ht;have hcell:w.cell? ⟨b,o+i.toNat,none⟩=some (hd.vs.getD i.toNat undef):=by rw[bP e4];exact e8 _ _ hv
     have hag:fJ P t=false:=hb.2;simp[Instr.loadAt,Instr.sureAddr,loadVar,nM hdd,hag,hcell]
  |_=>rw[ho]at hl;simp[sA]at hl
 |gp h1 h2 h3=>
  rename_i szt id off n cap b o i j hd;simp only[jE]at hl;cases ho:ae h id with
  |grid k l=>
   rw[ho]at hl;simp only[qy]at hl;cases hb:Nat.beq szt (aa k)with
   |false=>rw[hb]at hl;cases hl
   |true=>
    rw[hb]at hl;have hsz:=Nat.eq_of_beq_eq_true hb;have hpo:=mv hl;obtain⟨hd',e0,e⟩:=hp.at ho rfl;rw[h1]at e0;cases e0;rcases e with⟨_,_,e1,_⟩ | ⟨b',o',cap',cs,ty,bs,e1,e2,e3,e4,e5,e6,e7,e8,e9⟩
    ·rw[e1]at h2;simp at h2
    ·obtain⟨b1,q1,q2,q3,q4⟩:=e9.get h2;rcases q3 with⟨a,k1,_⟩ | ⟨b2,o2,cap2,cs2,ty2,k1,k2,k3,k4,k5,k6,k7⟩
     ·cases k1;omega
     ·simp only[Value.slice.injEq,Option.some.injEq,Addr.mk.injEq]at k1;obtain⟨⟨rfl,rfl,_⟩,rfl,rfl⟩:=k1;have:=pm (P:=P) (w:=w) (F:=F) (own:=own) (b:=b) (o:=o+j.toNat*szt) (off:=off) ht (fun q=>cs2.getD (o+j.toNat*aa k+q) undef) (fun q s hj=>by
       have:=k7.get h3 hj;rw[bP k3,hsz];exact this) hpo
      simpa[Instr.loadAt,Instr.sureAddr]using this
  |_=>rw[ho]at hl;simp[qy]at hl
 |_=>simp[jE]at hl
theorem AQ {t:TypeId}{ti:TI}(ht:cr P t=some ti){f:Nat}{x:Nat×Nat×Bool}(hf:nth ti.fields f=some x):
  ∃ fs fd,P.underlying t=some (.struct fs)/\fs[f]? =some fd/\x=(fd.offset,g8 P fd.type,fJ P fd.type):=by
 obtain⟨i,d,z,hi,hd,hz,hq,rfl⟩:=aY ht;simp only[ci,dx]at hf;cases d <;>simp at hf;rename_i fs;obtain⟨fd,h1,h2⟩:=hf;exact⟨fs,fd,hd,h1,h2.symm⟩
theorem FW {s s':SV}{v:Value}{n:Nat}(hr:Rel F own w s v)(h:pe n s=.val s'):
  ∃ b o,v=.pointer (some ⟨b,o,none⟩)/\Rel F own w s' (.pointer (some ⟨b,o+n,none⟩)):=by
 cases hr with
 |ptr h1 h2=>simp only[pe,OR.val.injEq]at h;subst h;exact⟨_,_,rfl,.ptr h1 h2⟩
 |ep c h1 h2=>simp only[pe,OR.val.injEq]at h;subst h;exact⟨_,_,rfl,by rw[Nat.add_assoc];exact .ep c h1 h2⟩
 |rp h1 h2 h3=>simp only[pe,OR.val.injEq]at h;subst h;exact⟨_,_,rfl,by rw[Nat.add_assoc];exact .rp h1 h2 h3⟩
 |gp h1 h2 h3=>simp only[pe,OR.val.injEq]at h;subst h;exact⟨_,_,rfl,by rw[Nat.add_assoc];exact .gp h1 h2 h3⟩
 |_=>simp[pe]at h
theorem wl {t:TypeId}{ti:TI}(ht:cr P t=some ti){f o n:Nat}{g:Bool}(hf:nth ti.fields f=some (o,n,g))(hn:1<=n){s s':SV}{v:Value}
  (hr:Rel F own w s v) (h:pe o s=.val s'):∃ u,(Instr.fieldAt t v f).run P w=.ok u w/\Rel F own w s' u:=by
 obtain⟨fs,fd,hu,hfd,he⟩:=AQ ht hf;obtain⟨b,q,rfl,hs⟩:=FW hr h;simp only[Prod.mk.injEq]at he;obtain⟨rfl,rfl,rfl⟩:=he;refine⟨_,?_,hs⟩;have hsz:(sizeOf fd.type).run P w=.ok (g8 P fd.type) w:=by
  cases hi:P.info? fd.type with
  |none=>simp[g8,hi]at hn
  |some i=>simp[cm hi,g8,hi]
 simp only[Instr.fieldAt,Sem.run_bind,run_underlying hu,Result.andThen_ok,hfd,Instr.sureAddr,Sem.run_pure,fieldPlace,hsz];rw[if_neg (by omega)];simp[il]
theorem BR {t:TypeId}{ti:TI}(ht:cr P t=some ti){f:Nat}{s s':SV}{v:Value}(hr:Rel F own w s v)(h:kK (nth ti.fields f) (pb s)=.val s'):
  ∃ u,(Instr.field t v f).run P w=.ok u w/\Rel F own w s' u:=by
 cases hf:nth ti.fields f with
 |none=>simp[hf,kK]at h
 |some x=>
  obtain⟨o,n,g⟩:=x;obtain⟨fs,fd,hu,hfd,he⟩:=AQ ht hf;simp only[Prod.mk.injEq]at he;obtain⟨rfl,rfl,rfl⟩:=he;obtain⟨i,d,z,hi,hd,hz,hq,rfl⟩:=aY ht;rw[hd]at hu;cases hu;have hq':(P.info? fd.type).isSome/\(P.underlying fd.type).isSome:=by
   simp only[mY,List.all_eq_true,Bool.and_eq_true]at hq;exact hq fd (by have:=Array.mem_of_getElem? hfd;simpa using this)
  obtain⟨fi,hfi⟩:=Option.isSome_iff_exists.1 hq'.1;obtain⟨fd',hfu⟩:=Option.isSome_iff_exists.1 hq'.2;have key:∀ (l:List SV) (vs:Array Value),vs.size=l.length->(∀ (j:Nat) (s:SV),l[j]? =some s->Rel F own w s (vs.getD j undef))->kK (some (fd.offset,g8 P fd.type,fJ P fd.type)) (some l)=.val s'->
    ∃ u,(part fd.type vs fd.offset).run P w=.ok u w/\Rel F own w s' u:=by
   intro l vs hl hrel hfs;simp only[kK]at hfs;cases hp:jY (fJ P fd.type) (g8 P fd.type) l fd.offset with
   |none=>simp[hp,lJ]at hfs
   |some q=>
    simp only[hp,lJ,OR.val.injEq]at hfs;subst hfs;simp only[g8,hfi]at hp;simp only[part,Sem.run_bind,nM hfu,Result.andThen_ok];cases ha:fJ P fd.type with
    |true=>
     simp only[jY,ha,cond_true,kl,wj,rZ]at hp;cases hb:Nat.ble (fd.offset+fi.size) l.length with
     |false=>simp[hb]at hp
     |true=>
      simp only[hb,cond_true,Option.some.injEq]at hp;subst hp;have hle:=nbl hb;simp only[if_true,Sem.run_bind,cm hfi,Result.andThen_ok,Sem.run_pure];refine⟨_,rfl,.agg (by simp;omega) fun j s hj=>?_⟩;have hj':j<fi.size:=by
       rcases Nat.lt_or_ge j fi.size with h|h
       ·exact h
       ·rw[List.getElem?_take,if_neg (by omega)]at hj;cases hj
      rw[List.getElem?_take,if_pos hj',List.getElem?_drop]at hj;have:=hrel (fd.offset+j) s hj;simp only[Array.getD_eq_getD_getElem?]at this |-;rw[Array.getElem?_extract_of_lt (by omega)]
      rwa[Array.getElem?_eq_getElem (by omega)]at this
    |false=>
     simp only[jY,ha,cond_false,dx]at hp;have h1:=hrel _ _ hp;have hlt:fd.offset<vs.size:=by rw[hl];exact(List.getElem?_eq_some_iff.1 hp).1
     refine⟨vs.getD fd.offset undef,?_,h1⟩;simp[hlt]
  cases hr with
  |agg h0 h1=>
   simp only[pb]at h;rw[hf]at h;obtain⟨u,hu,hru⟩:=key _ _ h0 h1 h;exact⟨u,by simp only[Instr.field,Sem.run_bind,run_underlying hd,Result.andThen_ok,hfd,asAgg,Sem.run_pure,hu],hru⟩
  |v x=>
   cases v with
   |agg cs=>
    simp only[pb]at h;rw[hf]at h;obtain⟨u,hu,hru⟩:=key (cs.toList.map .v) cs (by simp) (fun j s hj=>by
     simp at hj;obtain⟨z,hz,rfl⟩:=hj;simp[hz];exact .v _) h
    exact⟨u,by simp only[Instr.field,Sem.run_bind,run_underlying hd,Result.andThen_ok,hfd,asAgg,Sem.run_pure,hu],hru⟩
   |_=>simp[pb,kK]at h
  |_=>simp[pb,kK]at h
end
end Go.Sx
end
