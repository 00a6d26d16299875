/- Part of the proof that the law ClaimsEasement returns true and leaves its arguments as they were, for all arguments of bulk at most 1048576 (the Upto form). -/
import Derived.Calls
import Derived.Orders
import Derived.Below
import Derived.KernelRfl
import Derived.Laws.Sem
import Derived.Laws.World
import Derived.Laws.Cells
import Derived.Laws.Entries
set_option linter.all false
set_option maxHeartbeats 4000000
set_option maxRecDepth 100000
section
namespace Go.Sx
open Go.RowKit
structure Range where
 lo:Int
 hi:Int
 deriving Inhabited,DecidableEq
structure Ratio where
 n:Int
 d:Int
 deriving Inhabited,DecidableEq
structure Reach where
 name:ByteArray
 up:Int
 delay:Int
 cap:Int
 bank:Int
 siphon:Int
 evap:Range
 seep:Ratio×Ratio
 deriving Inhabited,DecidableEq
structure Farm where
 name:ByteArray
 reach:Int
 area:Int
 crop:Int
 deriving Inhabited,DecidableEq
structure Crop where
 name:ByteArray
 need:Int
 deriving Inhabited,DecidableEq
structure Right where
 name:ByteArray
 kind:Int
 farm:Int
 reach:Int
 rank:Int
 litres:Int
 since:Int
 to:Int
 every:Int
 length:Int
 deriving Inhabited,DecidableEq
structure Duty where
 name:ByteArray
 farm:Int
 reach:Int
 due:Int
 deriving Inhabited,DecidableEq
structure Well where
 farm:Int
 reach:Int
 d:Int
 kernel:List Int
 deriving Inhabited,DecidableEq
structure Part where
 farm:Int
 share:Ratio
 deriving Inhabited,DecidableEq
structure Deed where
 no:Int
 kind:Int
 right:Int
 since:Int
 to:Int
 parts:List Part
 of_:Int
 at_:Int
 known:Int
 deriving Inhabited,DecidableEq
structure Claim where
 right:Int
 farm:Int
 hour:Int
 litres:Int
 rank:Int
 deriving Inhabited,DecidableEq
structure Block where
 right:Int
 farm:Int
 hour:Int
 reach:Int
 deriving Inhabited,DecidableEq
structure Holding where
 right:Int
 farm:Int
 litres:Int
 rank:Int
 deriving Inhabited,DecidableEq
structure ClaimsFound where
 claim:Claim
 reach:Int
 deriving Inhabited,DecidableEq
structure RegisterTitle where
 right:Int
 farm:Int
 deriving Inhabited,DecidableEq
structure ClaimsUse where
 farm:Int
 reach:Int
 deriving Inhabited,DecidableEq
structure Tank where
 cap:Int
 start:Int
 deriving Inhabited,DecidableEq
structure District where
 name:ByteArray
 hours:Int
 tank:Tank
 reaches:List Reach
 farms:List Farm
 crops:List Crop
 rights:List Right
 duties:List Duty
 wells:List Well
 deriving Inhabited,DecidableEq
structure ClaimsLaw where
 owners:List (Int×Int)
 owned:List (ClaimsUse×Bool)
 eased:List (ClaimsUse×Bool)
 deriving Inhabited,DecidableEq
inductive Tag where
 |reach|farm|crop|right|duty|int|well|part|deed|claim|block|bool|holding|claimsFound|registerTitle|claimsUse|fnc|tank|district|ratio|ratio2|range|claimsLaw|str
 deriving DecidableEq
abbrev Tag.T:Tag→Type
 | .reach=>Reach
 | .farm=>Farm
 | .crop=>Crop
 | .right=>Right
 | .duty=>Duty
 | .int=>Int
 | .well=>Well
 | .part=>Part
 | .deed=>Deed
 | .claim=>Claim
 | .block=>Block
 | .bool=>Bool
 | .holding=>Holding
 | .claimsFound=>ClaimsFound
 | .registerTitle=>RegisterTitle
 | .claimsUse=>ClaimsUse
 | .fnc=>Option Nat
 | .tank=>Tank
 | .district=>District
 | .ratio=>Ratio
 | .ratio2=>Ratio×Ratio
 | .range=>Range
 | .claimsLaw=>ClaimsLaw
 | .str=>ByteArray
def sR:Tag→Nat
 | .reach=>0
 | .farm=>1
 | .crop=>2
 | .right=>3
 | .duty=>4
 | .int=>5
 | .well=>6
 | .part=>7
 | .deed=>8
 | .claim=>9
 | .block=>10
 | .bool=>11
 | .holding=>12
 | .claimsFound=>13
 | .registerTitle=>14
 | .claimsUse=>15
 | .fnc=>16
 | .tank=>17
 | .district=>18
 | .ratio=>19
 | .ratio2=>20
 | .range=>21
 | .claimsLaw=>22
 | .str=>23
def rank:Tag→Nat
 | .reach=>0
 | .farm=>0
 | .crop=>0
 | .right=>0
 | .duty=>0
 | .int=>0
 | .well=>1
 | .part=>0
 | .deed=>1
 | .claim=>0
 | .block=>0
 | .bool=>0
 | .holding=>0
 | .claimsFound=>0
 | .registerTitle=>0
 | .claimsUse=>0
 | .fnc=>1
 | .tank=>0
 | .district=>2
 | .ratio=>0
 | .ratio2=>0
 | .range=>0
 | .claimsLaw=>1
 | .str=>0
def Tag.ofName:String→Option Tag
 | "api.Reach" =>some .reach
 | "api.Farm" =>some .farm
 | "api.Crop" =>some .crop
 | "api.Right" =>some .right
 | "api.Duty" =>some .duty
 | "api.Errno" =>some .int
 | "expand.refused" =>some .int
 | "int" =>some .int
 | "int64" =>some .int
 | "api.Well" =>some .well
 | "api.Part" =>some .part
 | "api.Deed" =>some .deed
 | "api.Claim" =>some .claim
 | "api.Block" =>some .block
 | "bool" =>some .bool
 | "api.Holding" =>some .holding
 | "claims.found" =>some .claimsFound
 | "register.title" =>some .registerTitle
 | "claims.use" =>some .claimsUse
 | "func(register.book, api.Deed, int)" =>some .fnc
 | "api.Tank" =>some .tank
 | "api.District" =>some .district
 | "api.Ratio" =>some .ratio
 | "[2]api.Ratio" =>some .ratio2
 | "api.Range" =>some .range
 | "claims.law" =>some .claimsLaw
 | "string" =>some .str
 |_=>none
instance instDecTag:(k:Tag)→DecidableEq k.T
 | .reach=>inferInstanceAs (DecidableEq (Reach))
 | .farm=>inferInstanceAs (DecidableEq (Farm))
 | .crop=>inferInstanceAs (DecidableEq (Crop))
 | .right=>inferInstanceAs (DecidableEq (Right))
 | .duty=>inferInstanceAs (DecidableEq (Duty))
 | .int=>inferInstanceAs (DecidableEq (Int))
 | .well=>inferInstanceAs (DecidableEq (Well))
 | .part=>inferInstanceAs (DecidableEq (Part))
 | .deed=>inferInstanceAs (DecidableEq (Deed))
 | .claim=>inferInstanceAs (DecidableEq (Claim))
 | .block=>inferInstanceAs (DecidableEq (Block))
 | .bool=>inferInstanceAs (DecidableEq (Bool))
 | .holding=>inferInstanceAs (DecidableEq (Holding))
 | .claimsFound=>inferInstanceAs (DecidableEq (ClaimsFound))
 | .registerTitle=>inferInstanceAs (DecidableEq (RegisterTitle))
 | .claimsUse=>inferInstanceAs (DecidableEq (ClaimsUse))
 | .fnc=>inferInstanceAs (DecidableEq (Option Nat))
 | .tank=>inferInstanceAs (DecidableEq (Tank))
 | .district=>inferInstanceAs (DecidableEq (District))
 | .ratio=>inferInstanceAs (DecidableEq (Ratio))
 | .ratio2=>inferInstanceAs (DecidableEq (Ratio×Ratio))
 | .range=>inferInstanceAs (DecidableEq (Range))
 | .claimsLaw=>inferInstanceAs (DecidableEq (ClaimsLaw))
 | .str=>inferInstanceAs (DecidableEq (ByteArray))
structure Res where
 yv:Value
 n:Nat
 R:(Nat→Prop)→List Nat→World→Prop
 loc:∀ (F F':Nat→Prop) (bs:List Nat) (w w':World),R F bs w→w.heap.size≤w'.heap.size→(∀ b,b<w.heap.size→¬F b→w'.heap[b]? =w.heap[b]?)→(∀ b,b<w.heap.size→F' b→F b)→R F' bs w'
instance:Inhabited Res:=⟨⟨.nilFunc,0,fun _ _ _=>True,fun _ _ _ _ _ _ _ _ _=>trivial⟩⟩
inductive SV where
 |any
 |v (x:Value)
 |ptr (id off:Nat)
 |os (id:Nat)
 |e0
 |rp (sz id:Nat) (i:Int) (off:Nat)
 |gr (id:Nat) (i:Int)
 |gp (sz id:Nat) (i j:Int) (off:Nat)
 |ep (cells:List SV) (off:Nat)
 |rs (k:Tag) (l:List k.T)
 |ls (l:List SV)
 |rm (kk vk:Tag) (l:List (kk.T×vk.T))
 |agg (l:List SV)
 |tup (l:List SV)
 |fn (f:FuncId) (first caps:List SV)
 |nw (k:Tag) (l:List k.T)
 |nm (kk vk:Tag) (l:List (kk.T×vk.T))
 |ng (k:Tag) (l:List (List k.T))
 |gd (j:Nat) (want:Bool) (s:SV)
 |vw (sz id:Nat) (lo hi:Int)
 deriving Inhabited
abbrev SV.i (n:Int):SV:=.v (.int .i64 n)
abbrev SV.b (x:Bool):SV:=.v (.bool x)
abbrev SV.s (x:ByteArray):SV:=.v (.string x)
def fnV:Option Nat→SV|some f=>.fn f [] [] |none=>.v .nilFunc
def cellsOf:(k:Tag)→k.T→List SV
 | .reach,x=>[.v (.string x.name),.v (.int .i64 x.up),.v (.int .i64 x.delay),.v (.int .i64 x.cap),.v (.int .i64 x.bank),.v (.int .i64 x.siphon),.v (.int .i64 x.evap.lo),.v (.int .i64 x.evap.hi),.v (.int .i64 x.seep.1.n),.v (.int .i64 x.seep.1.d),.v (.int .i64 x.seep.2.n),.v (.int .i64 x.seep.2.d)]
 | .farm,x=>[.v (.string x.name),.v (.int .i64 x.reach),.v (.int .i64 x.area),.v (.int .i64 x.crop)]
 | .crop,x=>[.v (.string x.name),.v (.int .i64 x.need)]
 | .right,x=>[.v (.string x.name),.v (.int .i64 x.kind),.v (.int .i64 x.farm),.v (.int .i64 x.reach),.v (.int .i64 x.rank),.v (.int .i64 x.litres),.v (.int .i64 x.since),.v (.int .i64 x.to),.v (.int .i64 x.every),.v (.int .i64 x.length)]
 | .duty,x=>[.v (.string x.name),.v (.int .i64 x.farm),.v (.int .i64 x.reach),.v (.int .i64 x.due)]
 | .int,x=>[.v (.int .i64 x)]
 | .well,x=>[.v (.int .i64 x.farm),.v (.int .i64 x.reach),.v (.int .i64 x.d),.rs .int x.kernel]
 | .part,x=>[.v (.int .i64 x.farm),.v (.int .i64 x.share.n),.v (.int .i64 x.share.d)]
 | .deed,x=>[.v (.int .i64 x.no),.v (.int .i64 x.kind),.v (.int .i64 x.right),.v (.int .i64 x.since),.v (.int .i64 x.to),.rs .part x.parts,.v (.int .i64 x.of_),.v (.int .i64 x.at_),.v (.int .i64 x.known)]
 | .claim,x=>[.v (.int .i64 x.right),.v (.int .i64 x.farm),.v (.int .i64 x.hour),.v (.int .i64 x.litres),.v (.int .i64 x.rank)]
 | .block,x=>[.v (.int .i64 x.right),.v (.int .i64 x.farm),.v (.int .i64 x.hour),.v (.int .i64 x.reach)]
 | .bool,x=>[.v (.bool x)]
 | .holding,x=>[.v (.int .i64 x.right),.v (.int .i64 x.farm),.v (.int .i64 x.litres),.v (.int .i64 x.rank)]
 | .claimsFound,x=>[.v (.int .i64 x.claim.right),.v (.int .i64 x.claim.farm),.v (.int .i64 x.claim.hour),.v (.int .i64 x.claim.litres),.v (.int .i64 x.claim.rank),.v (.int .i64 x.reach)]
 | .registerTitle,x=>[.v (.int .i64 x.right),.v (.int .i64 x.farm)]
 | .claimsUse,x=>[.v (.int .i64 x.farm),.v (.int .i64 x.reach)]
 | .fnc,x=>[fnV x]
 | .tank,x=>[.v (.int .i64 x.cap),.v (.int .i64 x.start)]
 | .district,x=>[.v (.string x.name),.v (.int .i64 x.hours),.v (.int .i64 x.tank.cap),.v (.int .i64 x.tank.start),.rs .reach x.reaches,.rs .farm x.farms,.rs .crop x.crops,.rs .right x.rights,.rs .duty x.duties,.rs .well x.wells]
 | .ratio,x=>[.v (.int .i64 x.n),.v (.int .i64 x.d)]
 | .ratio2,x=>[.v (.int .i64 x.1.n),.v (.int .i64 x.1.d),.v (.int .i64 x.2.n),.v (.int .i64 x.2.d)]
 | .range,x=>[.v (.int .i64 x.lo),.v (.int .i64 x.hi)]
 | .claimsLaw,x=>[.rm .int .int x.owners,.rm .claimsUse .bool x.owned,.rm .claimsUse .bool x.eased]
 | .str,x=>[.v (.string x)]
def aa:Tag→Nat
 | .reach=>12
 | .farm=>4
 | .crop=>2
 | .right=>10
 | .duty=>4
 | .int=>1
 | .well=>4
 | .part=>3
 | .deed=>9
 | .claim=>5
 | .block=>4
 | .bool=>1
 | .holding=>4
 | .claimsFound=>6
 | .registerTitle=>2
 | .claimsUse=>2
 | .fnc=>1
 | .tank=>2
 | .district=>10
 | .ratio=>2
 | .ratio2=>4
 | .range=>2
 | .claimsLaw=>3
 | .str=>1
theorem aZ (k:Tag)(x:k.T):(cellsOf k x).length=aa k:=by cases k <;>rfl
def cF:(k:Tag)→k.T
 | .reach=>(default:Reach)
 | .farm=>(default:Farm)
 | .crop=>(default:Crop)
 | .right=>(default:Right)
 | .duty=>(default:Duty)
 | .int=>(0:Int)
 | .well=>(default:Well)
 | .part=>(default:Part)
 | .deed=>(default:Deed)
 | .claim=>(default:Claim)
 | .block=>(default:Block)
 | .bool=>false
 | .holding=>(default:Holding)
 | .claimsFound=>(default:ClaimsFound)
 | .registerTitle=>(default:RegisterTitle)
 | .claimsUse=>(default:ClaimsUse)
 | .fnc=>(default:Option Nat)
 | .tank=>(default:Tank)
 | .district=>(default:District)
 | .ratio=>(default:Ratio)
 | .ratio2=>(default:Ratio×Ratio)
 | .range=>(default:Range)
 | .claimsLaw=>(default:ClaimsLaw)
 | .str=>(ByteArray.mk #[])
inductive Kd where
 |s|b|n (k:IntKind) |r (k:Tag) |m (k k2:Tag) |f
def jF:Tag→Bool
 | .reach=>true
 | .farm=>true
 | .crop=>true
 | .right=>true
 | .duty=>true
 | .int=>false
 | .well=>true
 | .part=>true
 | .deed=>true
 | .claim=>true
 | .block=>true
 | .bool=>false
 | .holding=>true
 | .claimsFound=>true
 | .registerTitle=>true
 | .claimsUse=>true
 | .fnc=>false
 | .tank=>true
 | .district=>true
 | .ratio=>true
 | .ratio2=>true
 | .range=>true
 | .claimsLaw=>true
 | .str=>false
def BD:(k:Tag)→List (List k.T)→SV
 |_,_=>.any
def cC:Tag→List Kd
 | .reach=>[.s,.n .i64,.n .i64,.n .i64,.n .i64,.n .i64,.n .i64,.n .i64,.n .i64,.n .i64,.n .i64,.n .i64]
 | .farm=>[.s,.n .i64,.n .i64,.n .i64]
 | .crop=>[.s,.n .i64]
 | .right=>[.s,.n .i64,.n .i64,.n .i64,.n .i64,.n .i64,.n .i64,.n .i64,.n .i64,.n .i64]
 | .duty=>[.s,.n .i64,.n .i64,.n .i64]
 | .int=>[.n .i64]
 | .well=>[.n .i64,.n .i64,.n .i64,.r .int]
 | .part=>[.n .i64,.n .i64,.n .i64]
 | .deed=>[.n .i64,.n .i64,.n .i64,.n .i64,.n .i64,.r .part,.n .i64,.n .i64,.n .i64]
 | .claim=>[.n .i64,.n .i64,.n .i64,.n .i64,.n .i64]
 | .block=>[.n .i64,.n .i64,.n .i64,.n .i64]
 | .bool=>[.b]
 | .holding=>[.n .i64,.n .i64,.n .i64,.n .i64]
 | .claimsFound=>[.n .i64,.n .i64,.n .i64,.n .i64,.n .i64,.n .i64]
 | .registerTitle=>[.n .i64,.n .i64]
 | .claimsUse=>[.n .i64,.n .i64]
 | .fnc=>[.f]
 | .tank=>[.n .i64,.n .i64]
 | .district=>[.s,.n .i64,.n .i64,.n .i64,.r .reach,.r .farm,.r .crop,.r .right,.r .duty,.r .well]
 | .ratio=>[.n .i64,.n .i64]
 | .ratio2=>[.n .i64,.n .i64,.n .i64,.n .i64]
 | .range=>[.n .i64,.n .i64]
 | .claimsLaw=>[.m .int .int,.m .claimsUse .bool,.m .claimsUse .bool]
 | .str=>[.s]
def toI:SV→Int| .v (.int _ n) =>n|_=>0
def toB:SV→Bool| .v (.bool b) =>b|_=>false
def toS:SV→ByteArray| .v (.string s) =>s|_=>ByteArray.mk #[]
def toF:SV→Option Nat| .fn f [] [] =>some f|_=>none
def ue:SV→List Reach| .rs .reach l=>l|_=>[]
def wv:SV→List Farm| .rs .farm l=>l|_=>[]
def ww:SV→List Crop| .rs .crop l=>l|_=>[]
def uf:SV→List Right| .rs .right l=>l|_=>[]
def wx:SV→List Duty| .rs .duty l=>l|_=>[]
def Aj:SV→List Int| .rs .int l=>l|_=>[]
def wy:SV→List Well| .rs .well l=>l|_=>[]
def wz:SV→List Part| .rs .part l=>l|_=>[]
def BE:SV→List Deed| .rs .deed l=>l|_=>[]
def zd:SV→List Claim| .rs .claim l=>l|_=>[]
def zf:SV→List Block| .rs .block l=>l|_=>[]
def BF:SV→List Bool| .rs .bool l=>l|_=>[]
def u3:SV→List Holding| .rs .holding l=>l|_=>[]
def o9:SV→List ClaimsFound| .rs .claimsFound l=>l|_=>[]
def mU:SV→List RegisterTitle| .rs .registerTitle l=>l|_=>[]
def rE:SV→List ClaimsUse| .rs .claimsUse l=>l|_=>[]
def E5:SV→List (Option Nat) | .rs .fnc l=>l|_=>[]
def BG:SV→List Tank| .rs .tank l=>l|_=>[]
def sS:SV→List District| .rs .district l=>l|_=>[]
def zg:SV→List Ratio| .rs .ratio l=>l|_=>[]
def wA:SV→List (Ratio×Ratio) | .rs .ratio2 l=>l|_=>[]
def zh:SV→List Range| .rs .range l=>l|_=>[]
def rF:SV→List ClaimsLaw| .rs .claimsLaw l=>l|_=>[]
def E6:SV→List ByteArray| .rs .str l=>l|_=>[]
def gk:SV→List (ClaimsUse×Bool) | .rm .claimsUse .bool l=>l|_=>[]
def pA:SV→List (Int×Int) | .rm .int .int l=>l|_=>[]
def at0:List SV→Nat→SV
 | [],_=>.any
 |x::_,0=>x
 |_::r,n+1=>at0 r n
def mkE:(k:Tag)→List SV→k.T
 | .reach,l=>(⟨toS (at0 l 0),toI (at0 l 1),toI (at0 l 2),toI (at0 l 3),toI (at0 l 4),toI (at0 l 5),⟨toI (at0 l 6),toI (at0 l 7)⟩,(⟨toI (at0 l 8),toI (at0 l 9)⟩,⟨toI (at0 l 10),toI (at0 l 11)⟩)⟩:Reach)
 | .farm,l=>(⟨toS (at0 l 0),toI (at0 l 1),toI (at0 l 2),toI (at0 l 3)⟩:Farm)
 | .crop,l=>(⟨toS (at0 l 0),toI (at0 l 1)⟩:Crop)
 | .right,l=>(⟨toS (at0 l 0),toI (at0 l 1),toI (at0 l 2),toI (at0 l 3),toI (at0 l 4),toI (at0 l 5),toI (at0 l 6),toI (at0 l 7),toI (at0 l 8),toI (at0 l 9)⟩:Right)
 | .duty,l=>(⟨toS (at0 l 0),toI (at0 l 1),toI (at0 l 2),toI (at0 l 3)⟩:Duty)
 | .int,l=>(toI (at0 l 0):Int)
 | .well,l=>(⟨toI (at0 l 0),toI (at0 l 1),toI (at0 l 2),Aj (at0 l 3)⟩:Well)
 | .part,l=>(⟨toI (at0 l 0),⟨toI (at0 l 1),toI (at0 l 2)⟩⟩:Part)
 | .deed,l=>(⟨toI (at0 l 0),toI (at0 l 1),toI (at0 l 2),toI (at0 l 3),toI (at0 l 4),wz (at0 l 5),toI (at0 l 6),toI (at0 l 7),toI (at0 l 8)⟩:Deed)
 | .claim,l=>(⟨toI (at0 l 0),toI (at0 l 1),toI (at0 l 2),toI (at0 l 3),toI (at0 l 4)⟩:Claim)
 | .block,l=>(⟨toI (at0 l 0),toI (at0 l 1),toI (at0 l 2),toI (at0 l 3)⟩:Block)
 | .bool,l=>(toB (at0 l 0):Bool)
 | .holding,l=>(⟨toI (at0 l 0),toI (at0 l 1),toI (at0 l 2),toI (at0 l 3)⟩:Holding)
 | .claimsFound,l=>(⟨⟨toI (at0 l 0),toI (at0 l 1),toI (at0 l 2),toI (at0 l 3),toI (at0 l 4)⟩,toI (at0 l 5)⟩:ClaimsFound)
 | .registerTitle,l=>(⟨toI (at0 l 0),toI (at0 l 1)⟩:RegisterTitle)
 | .claimsUse,l=>(⟨toI (at0 l 0),toI (at0 l 1)⟩:ClaimsUse)
 | .fnc,l=>(toF (at0 l 0):Option Nat)
 | .tank,l=>(⟨toI (at0 l 0),toI (at0 l 1)⟩:Tank)
 | .district,l=>(⟨toS (at0 l 0),toI (at0 l 1),⟨toI (at0 l 2),toI (at0 l 3)⟩,ue (at0 l 4),wv (at0 l 5),ww (at0 l 6),uf (at0 l 7),wx (at0 l 8),wy (at0 l 9)⟩:District)
 | .ratio,l=>(⟨toI (at0 l 0),toI (at0 l 1)⟩:Ratio)
 | .ratio2,l=>((⟨toI (at0 l 0),toI (at0 l 1)⟩,⟨toI (at0 l 2),toI (at0 l 3)⟩):Ratio×Ratio)
 | .range,l=>(⟨toI (at0 l 0),toI (at0 l 1)⟩:Range)
 | .claimsLaw,l=>(⟨pA (at0 l 0),gk (at0 l 1),gk (at0 l 2)⟩:ClaimsLaw)
 | .str,l=>(toS (at0 l 0):ByteArray)
def kN:IntKind→Nat
 | .i8=>0| .i16=>1| .i32=>2| .i64=>3| .u8=>4| .u16=>5| .u32=>6| .u64=>7
def fit:Kd→SV→Bool
 | .s,.v (.string _) =>true
 | .b,.v (.bool _) =>true
 | .n k,.v (.int k' _) =>Nat.beq (kN k) (kN k')
 | .r k,.rs k' _=>Nat.beq (sR k) (sR k')
 | .m k k2,.rm k' k2' _=>Nat.beq (sR k) (sR k')&&Nat.beq (sR k2) (sR k2')
 | .f,.fn _ [] [] =>true
 | .f,.v .nilFunc=>true
 |_,_=>false
def nO:List Kd→List SV→Bool
 | [],[] =>true
 |k::ks,x::xs=>fit k x&&nO ks xs
 |_,_=>false
def BH:Kd→SV→SV
 | .r k,.v (.slice none 0 0) =>.rs k []
 | .r k,.e0=>.rs k []
 | .m k k2,.v (.map none) =>.rm k k2 []
 |_,s=>s
def rh:List Kd→List SV→List SV
 |k::ks,s::r=>BH k s::rh ks r
 |_,l=>l
def mo (k:Tag)(l:List SV):Option k.T:=bif nO (cC k) l then some (mkE k l)else none
def jG (k:Tag)(l:List SV):Option k.T:=mo k (rh (cC k) l)
inductive Pk where
 |st (k:Tag)
 |sl (k:Tag)
 |mp (k k2:Tag)
 |o
def ug:Pk→SV→SV
 | .st k,.agg l=>.agg (rh (cC k) l)
 | .sl k,s=>BH (.r k) s
 | .mp k k2,s=>BH (.m k k2) s
 |_,s=>s
def dH:List Pk→List SV→List SV
 |p::ps,s::r=>ug p s::dH ps r
 |_,l=>l
structure TI where
 size:Nat
 bytes:Nat
 agg:Bool
 zero:List SV
 fields:List (Nat×Nat×Bool)
 elem:Nat
 len:Nat
 isSlice:Bool
 isArr:Bool
 tag:Option Tag
 int:Option IntKind
 iface:Bool
 eq:List Nat
 mkt:Option Tag
 mvt:Option Tag
 sc:Nat
def svs (v:Value):List SV:=v.cells.toList.map .v
def iT (P:Program)(t:TypeId):Nat:=match P.info? t with|some i=>i.size|none=>0
def gl (P:Program)(t:TypeId):Bool:=match P.underlying t with|some (.struct _) =>true|some (.array _ _) =>true|_=>false
def bH:Option TypeDesc→Nat
 |some (.int _) =>1
 |some .string=>2
 |some .bool=>3
 |_=>0
def eqFields (P:Program):Nat→List Field→Bool
 |_,[] =>true
 |n,f::r=>(f.name != "_")&&Nat.beq f.offset n&&Nat.blt 0 (bH (P.underlying f.type))&&eqFields P (n+1) r
def jn (P:Program)(t:TypeId)(d:TypeDesc):List Nat:=match d with
 | .struct fs=>bif !P.stoodInHeld t&& !P.eqGuardType P.depth t&&eqFields P 0 fs.toList then fs.toList.map fun f=>bH (P.underlying f.type)else []
 | .array n e=>bif !P.eqGuardType P.depth t&&Nat.blt 0 (bH (P.underlying e))&&Nat.beq (iT P e) 1 then List.replicate n (bH (P.underlying e))else []
 |_=>[]
def iU (P:Program)(t:TypeId):List Nat:=match P.underlying t with
 |some (.struct gs) =>bif !P.stoodInHeld t&&eqFields P 0 gs.toList&&Nat.beq (iT P t) gs.size&&(P.info? t).isSome then gs.toList.map fun f=>bH (P.underlying f.type)else []
 |d=>bif Nat.blt 0 (bH d)then [bH d]else []
def nP (P:Program):Nat→List Field→Bool
 |_,[] =>true
 |n,f::r=>(f.name != "_")&&Nat.beq f.offset n&&Nat.blt 0 (iU P f.type).length&&nP P (n+(iU P f.type).length) r
def Ak (P:Program)(t:TypeId)(d:TypeDesc):List Nat:=match d with
 | .struct fs=>bif !P.stoodInHeld t&& !P.eqGuardType P.depth t&&nP P 0 fs.toList then fs.toList.flatMap fun f=>iU P f.type else []
 |_=>[]
def H3 (P:Program)(t:TypeId)(d:TypeDesc):List Nat:=match jn P t d with
 | [] =>Ak P t d
 |l=>l
def E7:SV→SV→Bool
 | .v (.int k a),.v (.int k' b) =>Nat.beq (kN k) (kN k')&&(match a,b with| .ofNat 0,.ofNat 0=>true|_,_=>false)
 | .v (.string a),.v (.string b) =>Nat.beq a.size 0&&Nat.beq b.size 0
 | .v (.bool false),.v (.bool false) =>true
 | .rs _ [],.v (.slice none 0 0) =>true
 | .rm _ _ [],.v (.map none) =>true
 | .v .nilFunc,.v .nilFunc=>true
 |_,_=>false
def nE:List SV→List SV→Bool
 | [],[] =>true
 |a::r,b::s=>E7 a b&&nE r s
 |_,_=>false
def uh:Bool→Bool→Bool
 |true,true=>true
 |false,false=>true
 |_,_=>false
def wB:Value→Bool
 | .agg _=>true
 |_=>false
def ui (P:Program)(t:TypeId)(i:TypeInfo)(k:Tag):Bool:=
 (match i.zero with|some z=>uh (wB z) (jF k) |none=>false)&&Nat.beq i.size (aa k)&&Nat.ble 1 i.bytes&&nE (cellsOf k (cF k)) (match i.zero with|some z=>svs z|none=>[])&&uh (gl P t) (jF k)
def rG (P:Program)(t:TypeId)(i:TypeInfo):Option Tag:=match Tag.ofName i.str with|some k=>bif ui P t i k then some k else none|none=>none
def BI (P:Program)(t:TypeId):Option Tag:=match P.info? t with|some i=>rG P t i|none=>none
def fo:Kd→Nat
 | .n _=>1
 | .s=>2
 | .b=>3
 |_=>0
def wC:List Nat→List Nat→Bool
 | [],[] =>true
 |a::r,b::s=>Nat.beq a b&&wC r s
 |_,_=>false
def Dz (P:Program)(t:TypeId)(k:Tag):Bool:=match P.underlying t with
 |some d=>bif gl P t then wC ((cC k).map fo) (jn P t d)&&Nat.blt 0 (cC k).length else wC ((cC k).map fo) [bH (some d)]&&Nat.blt 0 (bH (some d))
 |none=>false
def BJ (P:Program)(t:TypeId):Option Tag:=match BI P t with|some k=>bif Dz P t k then some k else none|none=>none
def cN (P:Program)(t:TypeId)(i:TypeInfo)(d:TypeDesc):TI:=
 {size:=i.size
  bytes:=i.bytes
  agg:=gl P t
  zero:=match i.zero with|some z=>svs z|none=>[]
  fields:=match d with| .struct fs=>fs.toList.map fun f=>(f.offset,iT P f.type,gl P f.type) |_=>[]
  elem:=match d with| .slice e=>e| .array _ e=>e| .map _ e=>e|_=>0
  len:=match d with| .array n _=>n|_=>0
  isSlice:=match d with| .slice _=>true|_=>false
  isArr:=match d with| .array _ _=>true|_=>false
  tag:=rG P t i
  int:=match d with| .int k=>some k|_=>none
  iface:=match d with| .interface _=>true|_=>false
  eq:=H3 P t d
  mkt:=match d with| .map k _=>BJ P k|_=>none
  mvt:=match d with| .map _ e=>BI P e|_=>none
  sc:=bH (some d)}
def pC (P:Program)(d:TypeDesc):Bool:=match d with| .struct fs=>fs.toList.all fun f=>(P.info? f.type).isSome&&(P.underlying f.type).isSome|_=>true
def cq (P:Program)(t:TypeId):Option TI:=
 match P.info? t,P.underlying t with
 |some i,some d=>bif i.zero.isSome&&pC P d then some (cN P t i d)else none
 |_,_=>none
abbrev Tis:=TypeId→Option TI
def Tis.ok (ts:Tis)(P:Program):Prop:= ∀ t i,ts t=some i→cq P t=some i
inductive Ob where
 |cells (l:List SV)
 |dead
 |row (k:Tag) (l:List k.T)
 |mp (kk vk:Tag) (l:List (kk.T×vk.T)) (pend:Option (Nat×Option kk.T))
 |grid (k:Tag) (l:List (List k.T))
 |ab (r:Res)
 |raw (o:Obj)
 |mi (mid:Option Nat) (n:Nat) (left:List Nat) (cur:Option Nat)
 |fwd (n:Option Nat)
 |fz (k:Tag) (l:List k.T)
instance:Inhabited Ob:=⟨.dead⟩
structure St where
 t:List (Nat×SV)
 h:List Ob
 deriving Inhabited
def lk (t:Nat):List (Nat×SV)→SV
 | [] =>.any
 |(a,s)::r=>bif Nat.beq a t then s else lk t r
def St.put (st:St)(d:Option Nat)(s:SV):St:=match d with|some d=>⟨(d,s)::st.t,st.h⟩ |none=>st
def ah:List Ob→Nat→Ob
 | [],_=>.dead
 |o::_,0=>o
 |_::r,n+1=>ah r n
def bB:List Ob→Nat→Ob→List Ob
 | [],0,x=>[x]
 | [],n+1,x=>.dead::bB [] n x
 |_::r,0,x=>x::r
 |o::r,n+1,x=>o::bB r n x
abbrev Up:=Nat×Ob
def noE {κ:Type}:Option (Nat×Option κ)→Bool
 |some (_,some _) =>false
 |_=>true
def aP (h:List Ob):List Up→List Ob
 | [] =>h
 |(id,o)::r=>aP (bB h id o) r
inductive Con where
 |det (pre:Prop) (s:SV)
 |rel (α:Type) (pre:Prop) (post:α→Prop) (out:α→SV)
 |may (ok:Bool) (s:SV) (x:Value)
inductive Rs where
 |ret (s:SV) (h:List Ob)
 |pan (x:Value) (h:List Ob)
structure HCon where
 α:Type
 pre:Prop
 post:α→Prop
 res:α→Rs
structure YCon where
 α:Type
 pre:Prop
 post:α→Prop
 res:α→Bool×Res
structure Cons where
 p:FuncId→List SV→Option Con
 o:FuncId→List SV→List Ob→Option HCon
 y:List SV→Res→Option YCon
def kc:SV→Option (List SV)
 | .agg l=>some l
 | .v (.agg cs) =>some (cs.toList.map .v)
 | .v (.tuple _) =>none
 | .any=>none
 | .tup _=>none
 | .gd .. =>none
 | .nw .. =>none
 | .nm .. =>none
 | .ng .. =>none
 |s=>some [s]
def nth {α:Type}:List α→Nat→Option α
 | [],_=>none
 |x::_,0=>some x
 |_::r,n+1=>nth r n
def cut:Nat→List SV→List SV
 |0,_=>[]
 |_+1,[] =>[]
 |n+1,x::r=>x::cut n r
def BK:Nat→List SV→List SV
 |0,l=>l
 |_+1,[] =>[]
 |n+1,_::r=>BK n r
def sz:List SV→Nat
 | [] =>0
 |_::r=>sz r+1
def lv (agg:Bool)(size:Nat)(cells:List SV)(off:Nat):Option SV:=
 bif agg then(bif Nat.ble (off+size) (sz cells)then some (.agg (cut size (BK off cells)))else none)
 else nth cells off
def wD:List SV→Nat→SV→List SV
 | [],_,_=>[]
 |_::r,0,s=>s::r
 |x::r,n+1,s=>x::wD r n s
def eF (cells:List SV)(off:Nat):List SV→List SV
 | [] =>cells
 |x::xs=>eF (wD cells off x) (off+1) xs
section
variable {κ υ:Type}
def e_ [DecidableEq κ]:List (κ×υ)→κ→Option υ
 | [],_=>none
 |(a,b)::r,x=>if x=a then some b else e_ r x
def ri [DecidableEq κ]:List (κ×υ)→κ→υ→List (κ×υ)
 | [],x,y=>[(x,y)]
 |(a,b)::r,x,y=>if x=a then(x,y)::r else(a,b)::ri r x y
def DA [DecidableEq κ]:List (κ×υ)→κ→Nat
 | [],_=>0
 |(a,_)::r,x=>if x=a then 0 else DA r x+1
end
def bF (kk vk:Tag)(l:List (kk.T×vk.T))(x:kk.T):vk.T:=(e_ l x).getD (cF vk)
def pF (kk vk:Tag)(l:List (kk.T×vk.T))(x:kk.T):Bool:=(e_ l x).isSome
def eU (kk vk:Tag)(l:List (kk.T×vk.T))(x:kk.T)(y:vk.T):List (kk.T×vk.T):=ri l x y
def uj {κ υ:Type}[DecidableEq κ]:List (κ×υ)→κ→List (κ×υ)
 | [],_=>[]
 |(a,b)::r,x=>if x=a then r else(a,b)::uj r x
def kU (kk vk:Tag)(l:List (kk.T×vk.T))(x:kk.T):List (kk.T×vk.T):=uj l x
def lO (kk vk:Tag)(l:List (kk.T×vk.T))(x:kk.T):Nat:=DA l x
def Sl (kk vk:Tag)(l:List (kk.T×vk.T))(x:kk.T):Option kk.T:=if(e_ l x).isSome then none else some x
def svT (k:Tag)(x:k.T):SV:=bif jF k then .agg (cellsOf k x)else(nth (cellsOf k x) 0).getD .any
def u4 (k:Tag):Option (List SV)→Option k.T
 |some l=>jG k l
 |none=>none
def sT:SV→Option (List SV)
 | .agg l=>some l
 | .v (.agg cs) =>some (cs.toList.map .v)
 |_=>none
def uk:SV→Option (List SV)
 | .agg _=>none
 | .v (.agg _) =>none
 |s=>kc s
def unT (k:Tag)(s:SV):Option k.T:=bif jF k then u4 k (sT s)else u4 k (uk s)
inductive OR where
 |val (s:SV)
 |chk (c:Prop) (s:SV)
 |asm (c:Prop) (s:SV)
 |newr (s:SV)
 |eff (c a:Prop) (ups:List Up) (s:SV)
 |call (f:FuncId) (args:List SV)
 |yld (id:Nat) (args:List SV)
 |nxt (id:Nat)
 |amb (p:Bool→Prop)
 |pan (x:Value)
 |bad
structure Cx where
 ts:Tis
 ops:List Oper
 g:Option (Nat×Bool)
 st:St
 nx:Nat
def kI (ops:List Oper):Nat→Option (Nat×Bool)→Nat→Bool→Bool
 |0,_,_,_=>false
 |_+1,none,_,_=>false
 |n+1,some (j,b),j',b'=>bif Nat.beq j j'&&uh b b' then true else kI ops n ((nth ops j).bind (·.guard)) j' b'
def bb (ops:List Oper)(g:Option (Nat×Bool)):SV→SV
 | .gd j b s=>bif kI ops ops.length g j b then s else .any
 | .any=>.any
 | .v x=>.v x
 | .ptr a b=>.ptr a b
 | .os a=>.os a
 | .e0=>.e0
 | .rp a b c d=>.rp a b c d
 | .gr a b=>.gr a b
 | .gp a b c d e=>.gp a b c d e
 | .ep a b=>.ep a b
 | .rs k l=>.rs k l
 | .ls l=>.ls l
 | .rm k k2 l=>.rm k k2 l
 | .agg l=>.agg l
 | .tup l=>.tup l
 | .fn f l m=>.fn f l m
 | .nw k l=>.nw k l
 | .nm k k2 l=>.nm k k2 l
 | .ng k l=>.ng k l
 | .vw a b c d=>.vw a b c d
def raw (t:List (Nat×SV)):Operand→SV
 | .tmp n=>lk n t
 | .const x=>.v x
 | .func f=>.fn f [] []
 | .global _=>.any
def val (cx:Cx)(x:Operand):SV:=bb cx.ops cx.g (raw cx.st.t x)
def b9 (cx:Cx):List Operand→List SV
 | [] =>[]
 |x::r=>val cx x::b9 cx r
def nQ (cx:Cx):Option Operand→Option SV
 |some x=>some (val cx x)
 |none=>none
def eG (cx:Cx):List (Nat×Operand)→List (Nat×SV)
 | [] =>[]
 |(i,x)::r=>(i,val cx x)::eG cx r
def ul:Operand→Bool
 | .const (.bool true) =>true
 |_=>false
def qP:Operand→Bool
 | .const (.bool false) =>true
 |_=>false
def zi (ops:List Oper)(j:Nat)(c:Operand):Bool:=
 match (nth ops j).bind (·.dst),c with
 |some d,.tmp t=>Nat.beq d t
 |_,_=>false
def gD (ops:List Oper)(g:Option (Nat×Bool))(c:Operand)(want:Bool):SV→SV
 | .gd j b s=>bif uh b want&&zi ops j c then s else bb ops g (.gd j b s)
 |s=>bb ops g s
def wE (a b:Operand):SV→SV→SV→OR
 | .v (.bool x),.v (.bool y),.v (.bool z) =>bif ul a then .val (.b (x||z))else bif qP b then .val (.b (x&&y))else .bad
 | .v (.bool x),.any,.v (.bool z) =>.chk (x=false) (.b z)
 | .v (.bool x),.v (.bool y),.any=>.chk (x=true) (.b y)
 |_,_,_=>.bad
def br (k:IntKind)(a b:Int):Int:=a.fdiv (2 ^ min b.toNat k.bits)
def Sm (k:IntKind)(a b:Int):Int:=k.wrap (a*2 ^ min b.toNat k.bits)
def Sn (k:IntKind)(a b:Int):Int:=k.wrap ((BitVec.ofInt k.bits a&&&BitVec.ofInt k.bits b).toNat:Int)
def orI (k:IntKind)(a b:Int):Int:=k.wrap ((BitVec.ofInt k.bits a|||BitVec.ofInt k.bits b).toNat:Int)
def So (k:IntKind)(a b:Int):Int:=k.wrap ((BitVec.ofInt k.bits a ^^^ BitVec.ofInt k.bits b).toNat:Int)
def E8 (k:IntKind)(a b:Int):Int:=k.wrap ((BitVec.ofInt k.bits a&&& ~~~(BitVec.ofInt k.bits b)).toNat:Int)
def nR (op:BinOp)(k:IntKind)(a b:Int):OR:=
 match op with
 | .add=>.val (.v (.int k (k.wrap (a+b))))
 | .sub=>.val (.v (.int k (k.wrap (a - b))))
 | .mul=>.val (.v (.int k (k.wrap (a*b))))
 | .quo=>.chk (b≠0) (.v (.int k (k.wrap (a.tdiv b))))
 | .rem=>.chk (b≠0) (.v (.int k (a.tmod b)))
 | .shr=>.chk (0≤b) (.v (.int k (br k a b)))
 | .shl=>.chk (0≤b) (.v (.int k (Sm k a b)))
 | .and=>.val (.v (.int k (Sn k a b)))
 | .or=>.val (.v (.int k (orI k a b)))
 | .xor=>.val (.v (.int k (So k a b)))
 | .andNot=>.val (.v (.int k (E8 k a b)))
 | .eql=>.val (.v (.bool (a==b)))
 | .neq=>.val (.v (.bool (a !=b)))
 | .lss=>.val (.v (.bool (decide (a<b))))
 | .leq=>.val (.v (.bool (decide (a≤b))))
 | .gtr=>.val (.v (.bool (decide (a > b))))
 | .geq=>.val (.v (.bool (decide (a≥b))))
def E9 (op:BinOp)(a b:ByteArray):OR:=
 match op with
 | .eql=>.val (.v (.bool (a==b)))
 | .neq=>.val (.v (.bool (a !=b)))
 |_=>.bad
def Al (op:BinOp)(a b:Bool):OR:=
 match op with
 | .eql=>.val (.v (.bool (a==b)))
 | .neq=>.val (.v (.bool (a !=b)))
 |_=>.bad
def eqV (c:Nat):SV→SV→Option Bool
 | .v (.int k a),.v (.int k' b) =>bif Nat.beq c 1&&Nat.beq (kN k) (kN k')then some (a==b)else none
 | .v (.string a),.v (.string b) =>bif Nat.beq c 2 then some (a==b)else none
 | .v (.bool a),.v (.bool b) =>bif Nat.beq c 3 then some (a==b)else none
 |_,_=>none
def sh:Option Bool→Option Bool→Option Bool
 |some a,some b=>some (a&&b)
 |_,_=>none
def eqL:List Nat→List SV→List SV→Option Bool
 | [],[],[] =>some true
 |c::cs,x::r,y::s=>sh (eqV c x y) (eqL cs r s)
 |_,_,_=>none
def eqO (op:BinOp):Option Bool→OR
 |some b=>match op with| .eql=>.val (.v (.bool b)) | .neq=>.val (.v (.bool !b)) |_=>.bad
 |none=>.bad
def NY (op:BinOp)(l m:List SV):List Nat→OR
 | [] =>.bad
 |c::cs=>eqO op (eqL (c::cs) l m)
def az (ts:Tis)(t:TypeId)(k:TI→OR):OR:=match ts t with|some i=>k i|none=>.bad
def eqT (op:BinOp)(l m:List SV)(ti:TI):OR:=NY op l m ti.eq
def sW (op:BinOp)(k k':IntKind):Bool:=
 match op with
 | .shl=>true
 | .shr=>true
 |_=>Nat.beq (kN k) (kN k')
def NZ (op:BinOp):SV→SV→OR
 | .v (.int k a),.v (.int k' b) =>bif sW op k k' then nR op k a b else .bad
 |_,_=>.bad
def KL (op:BinOp)(p:Prop):OR:=
 match op with
 | .eql=>.amb fun b=>b=true→p
 | .neq=>.amb fun b=>b=false→p
 |_=>.bad
def eqS (op:BinOp)(ti:TI):SV→SV→OR
 | .rs _ l,.v (.slice none 0 0) =>bif ti.isSlice then KL op (l=[])else .bad
 | .v (.string a),.v (.string b) =>bif Nat.beq ti.sc 2 then E9 op a b else .bad
 | .v (.bool a),.v (.bool b) =>bif Nat.beq ti.sc 3 then Al op a b else .bad
 | .agg l,.agg m=>eqT op l m ti
 |_,_=>.bad
def Am (ts:Tis)(op:BinOp)(t:TypeId):SV→SV→OR
 | .v (.int k a),.v (.int k' b) =>NZ op (.v (.int k a)) (.v (.int k' b))
 |a,b=>az ts t fun ti=>eqS op ti a b
def unS:UnOp→SV→OR
 | .not,.v (.bool b) =>.val (.v (.bool !b))
 | .neg,.v (.int k n) =>.val (.v (.int k (k.wrap (0 - n))))
 |_,_=>.bad
def nS:Option SV→OR
 |some s=>.val s
 |none=>.bad
def wF (agg:Bool)(size szt:Nat)(id:Nat)(i:Int)(off:Nat):Ob→OR
 | .row k l=>bif Nat.beq szt (aa k)then nS (lv agg size (cellsOf k (l.getD i.toNat (cF k))) off)else .bad
 | .grid _ _=>bif Nat.beq szt 1&&Nat.beq off 0&& !agg then .val (.gr id i)else .bad
 |_=>.bad
def um (agg:Bool)(size szt:Nat)(i j:Int)(off:Nat):Ob→OR
 | .grid k l=>bif Nat.beq szt (aa k)then nS (lv agg size (cellsOf k ((l.getD i.toNat []).getD j.toNat (cF k))) off)else .bad
 |_=>.bad
def sX (agg:Bool)(size off:Nat):Ob→OR
 | .cells l=>nS (lv agg size l off)
 |_=>.bad
def kV (ti:TI)(h:List Ob):SV→OR
 | .ptr id off=>sX ti.agg ti.size off (ah h id)
 | .ep l off=>nS (lv ti.agg ti.size l off)
 | .rp s id i off=>wF ti.agg ti.size s id i off (ah h id)
 | .gp s id i j off=>um ti.agg ti.size s i j off (ah h id)
 |_=>.bad
def sY (n:Nat):SV→OR
 | .ptr id off=>.val (.ptr id (off+n))
 | .ep l off=>.val (.ep l (off+n))
 | .rp s id i off=>.val (.rp s id i (off+n))
 | .gp s id i j off=>.val (.gp s id i j (off+n))
 |_=>.bad
def wG (esz id:Nat)(i:Int):Ob→OR
 | .row k l=>bif Nat.beq esz (aa k)then .chk (0≤i∧i< (l.length:Int)) (.rp esz id i 0)else .bad
 | .grid _ l=>bif Nat.beq esz 1 then .chk (0≤i∧i< (l.length:Int)) (.rp 1 id i 0)else .bad
 |_=>.bad
def An (esz id:Nat)(i j:Int):Ob→OR
 | .grid k l=>bif Nat.beq esz (aa k)then .chk (0≤j∧j< ((l.getD i.toNat []).length:Int)) (.gp esz id i j 0)else .bad
 |_=>.bad
def DB (i:Int):Option SV→OR
 |some s=>.chk (0≤i) (.ep [s] 0)
 |none=>.bad
def eS (ti:TI)(esz:Nat)(h:List Ob):SV→SV→OR
 | .rs k l,.v (.int _ i) =>bif ti.isSlice&&Nat.beq esz (aa k)then .chk (0≤i∧i< (l.length:Int)) (.ep (cellsOf k (l.getD i.toNat (cF k))) 0)else .bad
 | .os id,.v (.int _ i) =>bif ti.isSlice then wG esz id i (ah h id)else .bad
 | .gr id i,.v (.int _ j) =>bif ti.isSlice then An esz id i j (ah h id)else .bad
 | .ls l,.v (.int _ i) =>bif ti.isSlice&&Nat.beq esz 1 then DB i (nth l i.toNat)else .bad
 | .ptr id off,.v (.int _ i) =>bif ti.isArr then .chk (0≤i∧i< (ti.len:Int)) (.ptr id (off+i.toNat*esz))else .bad
 | .ep l off,.v (.int _ i) =>bif ti.isArr then .chk (0≤i∧i< (ti.len:Int)) (.ep l (off+i.toNat*esz))else .bad
 | .rp s id i off,.v (.int _ j) =>bif ti.isArr then .chk (0≤j∧j< (ti.len:Int)) (.rp s id i (off+j.toNat*esz))else .bad
 |_,_=>.bad
def g_ (place:Nat→Option (Nat×Nat))(cells:List SV):List (Nat×SV)→Option (List SV)
 | [] =>some cells
 |(i,v)::rest=>
  match place i,kc v with
  |some (off,size),some vs=>bif Nat.beq (sz vs) size&&Nat.ble (off+size) (sz cells)then g_ place (eF cells off vs) rest else none
  |_,_=>none
def lP (k:Tag)(size:Nat):Nat→List SV→Option (List k.T)
 |0,_=>some []
 |n+1,cells=>match jG k (cut size cells),lP k size n (BK size cells)with
  |some x,some xs=>some (x::xs)
  |_,_=>none
def vM (n:Nat)(z:List SV):List SV:=match n with|0=>[] |n+1=>z++vM n z
def mq (f:Option (Nat×Nat×Bool))(l:Option (List SV)):OR:=
 match f,l with
 |some (o,n,g),some l=>nS (lv g n l o)
 |_,_=>.bad
def DC:SV→Bool
 | .v (.agg _) =>false
 | .v (.tuple _) =>false
 | .any=>false
 | .agg _=>false
 | .tup _=>false
 | .gd .. =>false
 | .nw .. =>false
 | .nm .. =>false
 | .ng .. =>false
 |_=>true
def oD:List SV→Bool
 | [] =>true
 |x::r=>DC x&&oD r
def DD (k:Tag)(id:Nat)(i:Int)(l:List k.T):Option k.T→OR
 |some x=>.eff True True [(id,.row k (l.set i.toNat x))] .any
 |none=>.bad
def Ao (k:Tag)(id:Nat)(i j:Int)(l:List (List k.T)):Option k.T→OR
 |some x=>.eff True True [(id,.grid k (l.set i.toNat ((l.getD i.toNat []).set j.toNat x)))] .any
 |none=>.bad
def DE (id off:Nat)(vs:List SV):Ob→OR
 | .cells l=>bif Nat.ble (off+sz vs) (sz l)&&oD vs then .eff True True [(id,.cells (eF l off vs))] .any else .bad
 |_=>.bad
def DF (s id:Nat)(i:Int)(off:Nat)(vs:List SV):Ob→OR
 | .row k l=>bif Nat.beq s (aa k)&&Nat.ble (off+sz vs) s then DD k id i l (jG k (eF (cellsOf k (l.getD i.toNat (cF k))) off vs))else .bad
 |_=>.bad
def DG (s id:Nat)(i j:Int)(off:Nat)(vs:List SV):Ob→OR
 | .grid k l=>bif Nat.beq s (aa k)&&Nat.ble (off+sz vs) s then Ao k id i j l (jG k (eF (cellsOf k ((l.getD i.toNat []).getD j.toNat (cF k))) off vs))else .bad
 |_=>.bad
def lw (size:Nat)(h:List Ob):SV→Option (List SV)→OR
 | .ptr id off,some vs=>bif Nat.beq (sz vs) size then DE id off vs (ah h id)else .bad
 | .rp s id i off,some vs=>bif Nat.beq (sz vs) size then DF s id i off vs (ah h id)else .bad
 | .gp s id i j off,some vs=>bif Nat.beq (sz vs) size then DG s id i j off vs (ah h id)else .bad
 |_,_=>.bad
def Ap:Ob→Bool
 | .grid _ _=>true
 |_=>false
def H4 (k:Tag)(nx id rid:Nat)(i:Int)(l:List (List k.T)):Option (List k.T)→OR
 |some m=>.eff True True [(id,.dead),(rid,.dead),(nx,.grid k (l.set i.toNat m)),(id,.fwd (some nx))] .any
 |none=>.bad
def DH (k:Tag):Ob→Option (List k.T)
 | .row k' l=>if h:k'=k then some (h▸l)else none
 |_=>none
def wH (nx:Nat)(h:List Ob)(id rid:Nat)(i:Int):Ob→OR
 | .grid k l=>H4 k nx id rid i l (DH k (ah h rid))
 |_=>.bad
def lz (size nx:Nat)(h:List Ob):SV→SV→OR
 | .rp s id i off,.os rid=>bif Ap (ah h id)then(bif Nat.beq size 1&&Nat.beq s 1&&Nat.beq off 0&& !(Nat.beq id rid)then wH nx h id rid i (ah h id)else .bad)else lw size h (.rp s id i off) (kc (.os rid))
 |a,x=>lw size h a (kc x)
def H5:SV→OR
 | .ptr id off=>.val (.ptr id off)
 | .ep l off=>.val (.ep l off)
 | .rp a b c d=>.val (.rp a b c d)
 | .gp a b c d e=>.val (.gp a b c d e)
 | .fn f first caps=>.val (.fn f first caps)
 |_=>.bad
def BL:Option IntKind→SV→OR
 |some k,.v (.int _ n) =>.val (.v (.int k (k.wrap n)))
 |_,_=>.bad
def Aq (nx:Nat):Option (List SV)→OR
 |some l=>.eff True True [(nx,.cells l)] (.ptr nx 0)
 |none=>.bad
def DI:Option (List SV)→OR
 |some l=>.val (.agg l)
 |none=>.bad
def H6 (k:Tag):Option (List k.T)→OR
 |some xs=>.newr (.rs k xs)
 |none=>.bad
def lsS (n:Nat)(l:List SV):OR:=bif Nat.beq (sz l) n&&oD l then .newr (.ls l)else .bad
def bsT (k:Tag)(ti te:TI)(n:Nat):Option (List SV)→OR
 |some l=>bif Nat.beq te.size (aa k)&&ti.isSlice&&Nat.ble (n*te.size) 16777216&&Nat.beq (sz te.zero) te.size then H6 k (lP k te.size n l)else .bad
 |none=>.bad
def bsU (ti te:TI)(n:Nat):Option (List SV)→OR
 |some l=>bif Nat.beq te.size 1&&ti.isSlice&&Nat.ble (n*te.size) 16777216&&Nat.beq (sz te.zero) te.size then lsS n l else .bad
 |none=>.bad
def noG:Option (Nat×Bool)→Bool
 |none=>true
 |some _=>false
def Sp:Op→Bool
 | .call ⟨.value _,_,_⟩ =>true
 |_=>false
def Sq:Op→Bool
 | .call ⟨.builtin .append,_,_⟩ =>true
 |_=>false
def H7:List Oper→Bool
 | [] =>false
 |o::r=>Sp o.op||H7 r
def E_:List Oper→Bool
 | [] =>false
 |o::r=>Sq o.op||E_ r
def Sr:Op→Bool
 | .call ⟨.builtin .clear,_,_⟩ =>true
 |_=>false
def H8:List Oper→Bool
 | [] =>false
 |o::r=>Sr o.op||H8 r
def N0:Op→Bool
 | .slice .. =>true
 |_=>false
def DJ:List Oper→Bool
 | [] =>false
 | [o] =>N0 o.op
 |_::r=>DJ r
def Fa:List Oper→List Nat
 | [] =>[]
 |o::r=>bif N0 o.op then o.dst.toList++Fa r else Fa r
def BN (ds:List Nat):List Operand→Bool
 | [] =>false
 | .tmp d::r=>ds.any (Nat.beq d) ||BN ds r
 |_::r=>BN ds r
def H9:Op→List Operand
 | .call ⟨.value _,args,_⟩ =>args.toList
 |_=>[]
def N1 (ds:List Nat):List Oper→Bool
 | [] =>false
 |o::r=>BN ds (H9 o.op) ||N1 ds r
def BO (ops:List Oper):Bool:=E_ ops||H8 ops||DJ ops||N1 (Fa ops) ops
def Ss (ops:List Oper)(g:Option (Nat×Bool)):Option (Nat×Bool):=bif E_ ops&&H7 ops then some (0,true)else g
def N2:List (Nat×Operand)→List Operand
 | [] =>[]
 |(_,x)::r=>x::N2 r
def H_:Op→List Operand
 | .build _ parts=>N2 parts.toList
 |_=>[]
def N3 (ds:List Nat):List Oper→Bool
 | [] =>false
 |o::r=>BN ds (H_ o.op) ||N3 ds r
def Su (t:TypeId):Op→Bool
 | .buildSlice t' _ _=>Nat.beq t t'
 |_=>false
def Fb (t:TypeId):List Oper→List Nat
 | [] =>[]
 |o::r=>bif Su t o.op then o.dst.toList++Fb t r else Fb t r
def Nc:Bool:=false
def yM (t:TypeId)(ops:List Oper)(g:Option (Nat×Bool)):Option (Nat×Bool):=bif Nc&&N3 (Fb t ops) ops then some (0,true)else Ss ops g
def Sv:SV→Bool
 | .os _=>true
 |_=>false
def osL:List SV→Bool
 | [] =>false
 |s::r=>Sv s||osL r
def osV:SV→Bool
 | .os _=>true
 | .agg l=>osL l
 |_=>false
def Ia:List (Nat×SV)→Bool
 | [] =>false
 |(_,s)::r=>osV s||Ia r
def bsG (ti te:TI)(n:Nat)(l:Option (List SV))(os:Bool):Option Tag→OR
 |some k=>bif os then bsU ti te n l else bsT k ti te n l
 |none=>bsU ti te n l
def Nd:List Kd→Bool
 | [.f] =>true
 |_=>false
def KM:Option Tag→Option Tag
 |some k=>bif Nd (cC k)then none else some k
 |none=>none
def bsS (ti te:TI)(n:Nat)(parts:List (Nat×SV)):OR:=
 bif Nat.beq n 0 then(bif ti.isSlice&&parts.isEmpty then .newr .e0 else .bad)
 else bsG ti te n (g_ (fun i=>some (i*te.size,te.size)) (vM n te.zero) parts) (Ia parts) (KM te.tag)
def one {α:Type}:List α→Bool
 | [_] =>true
 |_=>false
def yN (g:Option (Nat×Bool))(nx:Nat)(te:TI):OR→OR
 | .newr (.rs k l) =>bif(te.agg||one l)&&noG g then .eff True True [(nx,.row k l)] (.os nx)else .newr (.rs k l)
 |r=>r
def Ib (i:Nat):SV→OR
 | .tup l=>nS (nth l i)
 |_=>.bad
def sZ (args:List SV):SV→OR
 | .fn g first caps=>.call g (first++args++caps)
 | .os id=>.yld id args
 |_=>.bad
def a7:Nat:=140737488355328
def Ic:Ob→OR
 | .row _ l=>.asm (l.length≤a7) (.i l.length)
 | .grid _ l=>.asm (l.length≤a7) (.i l.length)
 |_=>.bad
def KN (i:Int):Ob→OR
 | .grid _ l=>.asm ((l.getD i.toNat []).length≤a7) (.i (l.getD i.toNat []).length)
 |_=>.bad
def KO (m:Option Tag):Ob→OR
 | .mp _ _ l p=>bif m.isSome&&noE p then .val (.i l.length)else .bad
 |_=>.bad
def nT (ti:TI)(h:List Ob):List SV→OR
 | [.rs _ l] =>bif ti.isSlice then .asm (l.length≤a7) (.i l.length)else .bad
 | [.v (.slice none 0 0)] =>bif ti.isSlice then .val (.i 0)else .bad
 | [.e0] =>bif ti.isSlice then .val (.i 0)else .bad
 | [.os id] =>bif ti.isSlice then Ic (ah h id)else KO ti.mkt (ah h id)
 | [.gr id i] =>bif ti.isSlice then KN i (ah h id)else .bad
 | [.ls l] =>bif ti.isSlice then .val (.i (sz l))else .bad
 |_=>.bad
def Ar:List SV→OR
 | [.v (.int k a),.v (.int _ b)] =>.val (.v (.int k (if b<a then b else a)))
 |_=>.bad
def As:List SV→OR
 | [.v (.int k a),.v (.int _ b)] =>.val (.v (.int k (if a<b then b else a)))
 |_=>.bad
def Id:SV→OR
 | .v (.iface t y) =>.pan (.iface t y)
 |_=>.bad
def wI (t:TypeId):SV→OR
 | .v (.int k n) =>.val (.v (.iface t (.int k n)))
 |_=>.bad
def BP (fn:Fn)(first caps:List SV):OR:=
 match fn with
 | .func f=>.val (.fn f first caps)
 |_=>.bad
def eu:Nat:=140737488355328
def Fc (a:Tag):Option Tag→Bool
 |some b=>Nat.beq (sR a) (sR b)
 |none=>false
def s4 (k:Tag)(k':Tag)(l:List k'.T):Option (List k.T):=if h:k'=k then some (h▸l)else none
def GG (k:Tag):Ob→Option (List k.T)
 | .row k' l=>s4 k k' l
 |_=>none
def KP (k:Tag)(s:Nat)(lo hi:Int):Ob→Option (List k.T)
 | .row k' l=>bif Nat.beq s (aa k')then s4 k k' ((l.take hi.toNat).drop lo.toNat)else none
 |_=>none
def pG (k:Tag)(h:List Ob):SV→Option (List k.T)
 | .rs k' l=>s4 k k' l
 | .v (.slice none 0 0) =>some []
 | .e0=>some []
 | .os id=>GG k (ah h id)
 | .vw s id lo hi=>KP k s lo hi (ah h id)
 |_=>none
def Ie (k:Tag)(nx bytes:Nat)(kill:List Up)(l:List k.T):Option (List k.T)→OR
 |some m=>.eff ((l++m).length*bytes≤eu) ((l++m).length≤a7) (kill++[(nx,.row k (l++m))]) (.os nx)
 |none=>.bad
def oE (te:TI)(nx:Nat)(kill:List Up)(h:List Ob)(src:SV):Ob→OR
 | .row k l=>bif Nat.beq te.size (aa k)&&Nat.beq (sz te.zero) te.size&&Nat.ble 1 te.bytes then Ie k nx te.bytes kill l (pG k h src)else .bad
 |_=>.bad
def wJ (k:Tag)(nx bytes id2:Nat)(kill:List Up)(l:List (List k.T)):Option (List k.T)→OR
 |some m=>.eff ((l++[m]).length*bytes≤eu) ((l++[m]).length≤a7) (kill++[(id2,.dead),(nx,.grid k (l++[m]))]) (.os nx)
 |none=>.bad
def u5 (nx bytes:Nat)(h:List Ob)(id2:Nat)(kill:List Up):Ob→OR
 | .grid k l=>wJ k nx bytes id2 kill l (GG k (ah h id2))
 |_=>.bad
def If (nx bytes id2:Nat):Ob→OR
 | .row k m=>wJ k nx bytes id2 [] [] (some m)
 |_=>.bad
def oF (te:TI)(nx:Nat)(h:List Ob)(src:SV):Option Tag→OR
 |some k=>oE te nx [] h src (.row k [])
 |none=>.bad
def Ig (te:TI)(id:Nat):Ob→OR
 | .row k l=>bif Nat.beq te.size (aa k)&&Nat.beq (sz te.zero) te.size&&Nat.ble 1 te.bytes then .eff ((l++l).length*te.bytes≤eu) ((l++l).length≤a7) [(id,.fz k l)] (.rs k (l++l))else .bad
 |_=>.bad
def iL (te:TI)(nx:Nat)(h:List Ob):List SV→OR
 | [.os id,.ls [.os id2]] =>bif Nat.beq te.size 1&&Nat.beq (sz te.zero) 1&&Nat.ble 1 te.bytes&& !(Nat.beq id id2)then u5 nx te.bytes h id2 [(id,.dead)] (ah h id)else .bad
 | [.v (.slice none 0 0),.ls [.os id2]] =>bif Nat.beq te.size 1&&Nat.beq (sz te.zero) 1&&Nat.ble 1 te.bytes then If nx te.bytes id2 (ah h id2)else .bad
 | [.os id,.os id2] =>bif Nat.beq id id2 then Ig te id (ah h id)else oE te nx [(id,.dead)] h (.os id2) (ah h id)
 | [.os id,src] =>oE te nx [(id,.dead)] h src (ah h id)
 | [.v (.slice none 0 0),src] =>oF te nx h src te.tag
 | [.e0,src] =>oF te nx h src te.tag
 |_=>.bad
def wK (k:Tag)(l:List k.T)(lo hi:Int):List k.T:=if hi.toNat≤lo.toNat then l else l.take lo.toNat++List.replicate (hi.toNat - lo.toNat) (cF k)++l.drop hi.toNat
def N4 (te:TI)(s id:Nat)(lo hi:Int):Ob→OR
 | .row k l=>bif Nat.beq s (aa k)&&Fc k te.tag then .eff True True [(id,.row k (wK k l lo hi))] .any else .bad
 |_=>.bad
def sj (ti te:TI)(h:List Ob):List SV→OR
 | [.vw s id lo hi] =>bif ti.isSlice then N4 te s id lo hi (ah h id)else .bad
 |_=>.bad
def mkT (nx:Nat)(n c:Int)(te:TI):Option Tag→OR
 |some k=>.eff (n=c∧0≤n∧n*te.bytes≤eu) (n≤a7) [(nx,.row k (List.replicate n.toNat (cF k)))] (.os nx)
 |none=>.bad
def mkS (nx:Nat)(te:TI):SV→SV→OR
 | .v (.int .i64 n),.v (.int .i64 c) =>mkT nx n c te te.tag
 |_,_=>.bad
def Ih:List SV→Bool
 | [.v (.slice none 0 0)] =>true
 |_=>false
def KQ (nx:Nat)(n c:Int)(te:TI):Option Tag→OR
 |some k=>bif Nat.beq te.size 1&&Ih te.zero&&Nat.ble 1 te.bytes then .eff (n=c∧0≤n∧n*te.bytes≤eu) (n≤a7) [(nx,.grid k (List.replicate n.toNat []))] (.os nx)else .bad
 |none=>.bad
def yO (nx:Nat)(te tr:TI):SV→SV→OR
 | .v (.int .i64 n),.v (.int .i64 c) =>KQ nx n c te tr.tag
 |_,_=>.bad
def bnd (d:Int):Option SV→Option Int
 |none=>some d
 |some (.v (.int _ n)) =>some n
 |_=>none
def Ii (k:Tag)(l:List k.T):Option Int→Option Int→OR
 |some lo,some hi=>.chk (0≤lo∧lo≤hi∧hi≤(l.length:Int)) (.rs k ((l.take hi.toNat).drop lo.toNat))
 |_,_=>.bad
def KR (id nx:Nat)(k:Tag)(l:List k.T):Option Int→Option Int→OR
 |some lo,some hi=>.eff (0≤lo∧lo≤hi∧hi≤(l.length:Int)) True [(id,.dead),(nx,.row k ((l.take hi.toNat).drop lo.toNat))] (.os nx)
 |_,_=>.bad
def Ij (esz id nx:Nat)(lo hi:Option SV):Ob→OR
 | .row k l=>bif Nat.beq esz (aa k)then KR id nx k l (bnd 0 lo) (bnd l.length hi)else .bad
 |_=>.bad
def Ik (esz id n:Nat):Option Int→OR
 |some a=>.chk (0≤a∧a≤(n:Int)) (.vw esz id a n)
 |none=>.bad
def Fd (esz id:Nat)(lo:Option SV):Ob→OR
 | .row k l=>bif Nat.beq esz (aa k)then Ik esz id l.length (bnd 0 lo)else .bad
 |_=>.bad
def iM (ti:TI)(esz nx:Nat)(h:List Ob)(lo hi:Option SV)(vq:Bool):SV→OR
 | .rs k l=>bif ti.isSlice&&Nat.beq esz (aa k)then Ii k l (bnd 0 lo) (bnd l.length hi)else .bad
 | .os id=>bif ti.isSlice then(bif vq then Fd esz id lo (ah h id)else Ij esz id nx lo hi (ah h id))else .bad
 |_=>.bad
def wL (kk vk:Tag)(l:List (kk.T×vk.T))(ok:Bool):Option kk.T→OR
 |some x=>bif ok then .val (.tup [svT vk (bF kk vk l x),.b (pF kk vk l x)])else .val (svT vk (bF kk vk l x))
 |none=>.bad
def gf (a:Tag):Option Tag→Bool
 |some b=>Nat.beq (sR a) (sR b)
 |none=>false
def zj {α:Type}:Option α→Bool
 |none=>true
 |some _=>false
def BQ (ti:TI)(key:SV)(ok:Bool):Ob→OR
 | .mp kk vk l pend=>bif gf kk ti.mkt&&gf vk ti.mvt&&(!ok||noE pend)then wL kk vk l ok (unT kk key)else .bad
 |_=>.bad
def Fe (key:SV)(ok:Bool):Option Tag→Option Tag→OR
 |some kk,some vk=>wL kk vk [] ok (unT kk key)
 |_,_=>.bad
def mV (ti:TI)(h:List Ob)(ok:Bool)(key:SV):SV→OR
 | .os id=>BQ ti key ok (ah h id)
 | .rm kk vk l=>bif gf kk ti.mkt&&gf vk ti.mvt then wL kk vk l ok (unT kk key)else .bad
 | .v (.map none) =>Fe key ok ti.mkt ti.mvt
 |_=>.bad
def N5 (id:Nat)(kk vk:Tag)(l:List (kk.T×vk.T)):Option kk.T→Option vk.T→OR
 |some x,some y=>.eff True True [(id,.mp kk vk (eU kk vk l x y) none)] .any
 |_,_=>.bad
def N6 (ti:TI)(id:Nat)(key v:SV):Ob→OR
 | .mp kk vk l p=>bif gf kk ti.mkt&&gf vk ti.mvt&&noE p then N5 id kk vk l (unT kk key) (unT vk v)else .bad
 |_=>.bad
def vN (ti:TI)(h:List Ob)(key v:SV):SV→OR
 | .os id=>N6 ti id key v (ah h id)
 |_=>.bad
def GH (id nx:Nat)(kk vk:Tag)(l:List (kk.T×vk.T)):Option kk.T→OR
 |some x=>.eff True True [(nx,.fwd none),(id,.mp kk vk l (some (nx,some x)))] (.tup [svT vk (bF kk vk l x),.os nx])
 |none=>.bad
def GI (ti:TI)(id nx:Nat)(key:SV):Ob→OR
 | .mp kk vk l p=>bif gf kk ti.mkt&&gf vk ti.mvt&&noE p then GH id nx kk vk l (unT kk key)else .bad
 |_=>.bad
def rj (ti:TI)(nx:Nat)(h:List Ob)(key:SV):SV→OR
 | .os id=>GI ti id nx key (ah h id)
 |_=>.bad
def N7 (id:Nat)(kk vk:Tag)(l:List (kk.T×vk.T))(x:kk.T):Option vk.T→OR
 |some y=>.eff True True [(id,.mp kk vk (eU kk vk l x y) none)] .any
 |none=>.bad
def KS (ti:TI)(id n:Nat)(v:SV):Ob→OR
 | .mp kk vk l (some (n',some x)) =>bif gf kk ti.mkt&&gf vk ti.mvt&&Nat.beq n' n then N7 id kk vk l x (unT vk v)else .bad
 |_=>.bad
def At (ti:TI)(h:List Ob)(v:SV):SV→SV→OR
 | .os id,.os n=>KS ti id n v (ah h id)
 |_,_=>.bad
def N8 (id:Nat)(kk vk:Tag)(l:List (kk.T×vk.T)):Option kk.T→OR
 |some x=>.eff True True [(id,.mp kk vk (kU kk vk l x) none)] .any
 |none=>.bad
def N9 (ti:TI)(id:Nat)(key:SV):Ob→OR
 | .mp kk vk l p=>bif gf kk ti.mkt&&gf vk ti.mvt&&noE p then N8 id kk vk l (unT kk key)else .bad
 |_=>.bad
def sm (ti:TI)(h:List Ob):List SV→OR
 | [.os id,key] =>N9 ti id key (ah h id)
 |_=>.bad
def mmR (nx:Nat):Option Tag→Option Tag→OR
 |some kk,some vk=>.eff True True [(nx,.mp kk vk [] none)] (.os nx)
 |_,_=>.bad
def zsO (z:List SV):OR:=.val (.tup [.agg z,.b false])
def taS (t:TypeId)(ok:Bool)(ti:TI):SV→OR
 | .v (.iface t' y) =>bif ti.iface then .bad else bif Nat.beq t' t then(bif ok then .val (.tup [.v y,.b true])else .val (.v y))else .bad
 |_=>.bad
def KT (ti:TI)(nx id:Nat):Ob→OR
 | .mp kk vk l p=>bif gf kk ti.mkt&&gf vk ti.mvt&&noE p then .eff True True [(nx,.mi (some id) l.length (List.range l.length) none),(id,.mp kk vk l (some (nx,none)))] (.ptr nx 0)else .bad
 |_=>.bad
def wM (ti:TI)(nx:Nat)(h:List Ob):SV→OR
 | .os id=>KT ti nx id (ah h id)
 |_=>.bad
def Il:SV→OR
 | .ptr id 0=>.nxt id
 |_=>.bad
def Im (id n j:Nat):Ob→OR
 | .mp kk vk l (some (it,none)) =>bif Nat.beq it id then .chk (n=l.length∧j<n) (.tup [svT kk (l.getD j (cF kk,cF vk)).1,svT vk (l.getD j (cF kk,cF vk)).2])else .bad
 |_=>.bad
def Fg (h:List Ob)(id:Nat):Ob→OR
 | .mi (some mid) n _ (some j) =>Im id n j (ah h mid)
 |_=>.bad
def u6 (h:List Ob):SV→OR
 | .ptr id 0=>Fg h id (ah h id)
 |_=>.bad
def opS (cx:Cx):Op→OR
 | .move x=>.val (val cx x)
 | .assign x=>.val (val cx x)
 | .pick c a b=>wE a b (val cx c) (gD cx.ops cx.g c true (raw cx.st.t a)) (gD cx.ops cx.g c false (raw cx.st.t b))
 | .alloc t=>az cx.ts t fun ti=>Aq cx.nx (some ti.zero)
 | .box _ x=>Aq cx.nx (kc (val cx x))
 | .build t parts=>az cx.ts t fun ti=>
  bif ti.isArr then az cx.ts ti.elem fun te=>DI (g_ (fun i=>some (i*te.size,te.size)) ti.zero (eG cx parts.toList))
  else bif ti.agg then DI (g_ (fun i=>(nth ti.fields i).map fun f=>(f.1,f.2.1)) ti.zero (eG cx parts.toList))
  else .bad
 | .buildSlice t n parts=>az cx.ts t fun ti=>az cx.ts ti.elem fun te=>yN (yM t cx.ops cx.g) cx.nx te (bsS ti te n (eG cx parts.toList))
 | .load t a=>az cx.ts t fun ti=>kV ti cx.st.h (val cx a)
 | .store t a x=>az cx.ts t fun ti=>lz ti.size cx.nx cx.st.h (val cx a) (val cx x)
 | .nilCheck x=>H5 (val cx x)
 | .binOp op t x y _=>Am cx.ts op t (val cx x) (val cx y)
 | .unOp op _ x=>unS op (val cx x)
 | .convert src dst x=>az cx.ts src fun _=>az cx.ts dst fun ti=>BL ti.int (val cx x)
 | .makeFunc fn first captured=>BP fn (b9 cx first.toList) (b9 cx captured.toList)
 | .fieldAddr t x f=>az cx.ts t fun ti=>match nth ti.fields f with|some (o,n,_) =>bif Nat.ble 1 n then sY o (val cx x)else .bad|none=>.bad
 | .field t x f=>az cx.ts t fun ti=>mq (nth ti.fields f) (sT (val cx x))
 | .indexAddr t x i=>az cx.ts t fun ti=>az cx.ts ti.elem fun te=>eS ti te.size cx.st.h (val cx x) (val cx i)
 | .extract x i=>Ib i (val cx x)
 | .panic x=>Id (val cx x)
 | .makeInterface t x=>az cx.ts t fun ti=>bif ti.iface then .bad else wI t (val cx x)
 | .makeSlice t n c=>az cx.ts t fun ti=>az cx.ts ti.elem fun te=>bif ti.isSlice then(bif te.isSlice then az cx.ts te.elem fun tr=>yO cx.nx te tr (val cx n) (val cx c)else mkS cx.nx te (val cx n) (val cx c))else .bad
 | .slice t x lo hi none=>az cx.ts t fun ti=>az cx.ts ti.elem fun te=>iM ti te.size cx.nx cx.st.h (nQ cx lo) (nQ cx hi) (zj hi&&BO cx.ops) (val cx x)
 | .makeMap t none=>az cx.ts t fun ti=>mmR cx.nx ti.mkt ti.mvt
 | .lookup t m k ok=>az cx.ts t fun ti=>mV ti cx.st.h ok (val cx k) (val cx m)
 | .mapUpdate t m k v=>az cx.ts t fun ti=>vN ti cx.st.h (val cx k) (val cx v) (val cx m)
 | .insert t m k v=>az cx.ts t fun ti=>vN ti cx.st.h (val cx k) (val cx v) (val cx m)
 | .mapEntry t m k=>az cx.ts t fun ti=>rj ti cx.nx cx.st.h (val cx k) (val cx m)
 | .entryStore t m s v=>az cx.ts t fun ti=>At ti cx.st.h (val cx v) (val cx m) (val cx s)
 | .range t m=>az cx.ts t fun ti=>wM ti cx.nx cx.st.h (val cx m)
 | .next it false=>Il (val cx it)
 | .entry it=>u6 cx.st.h (val cx it)
 | .typeAssert x _ t ok=>az cx.ts t fun ti=>taS t ok ti (val cx x)
 | .call ⟨.value f,args,_⟩ =>sZ (b9 cx args.toList) (val cx f)
 | .call ⟨.builtin .len,args,tys⟩ =>match tys.toList with| [t] =>az cx.ts t fun ti=>nT ti cx.st.h (b9 cx args.toList) |_=>.bad
 | .call ⟨.builtin .delete,args,tys⟩ =>match tys.toList with|t::_=>az cx.ts t fun ti=>sm ti cx.st.h (b9 cx args.toList) |_=>.bad
 | .call ⟨.builtin .clear,args,tys⟩ =>match tys.toList with| [t] =>az cx.ts t fun ti=>az cx.ts ti.elem fun te=>sj ti te cx.st.h (b9 cx args.toList) |_=>.bad
 | .call ⟨.builtin .min,args,_⟩ =>Ar (b9 cx args.toList)
 | .call ⟨.builtin .max,args,_⟩ =>As (b9 cx args.toList)
 | .call ⟨.builtin .append,args,tys⟩ =>match tys.toList with| [t,t2] =>az cx.ts t fun ti=>az cx.ts t2 fun ti2=>az cx.ts ti.elem fun te=>bif ti.isSlice&&ti2.isSlice then iL te cx.nx cx.st.h (b9 cx args.toList)else .bad|_=>.bad
 |_=>.bad
structure Fp where
 all:List Nat
 rd:List Nat
 wk:List Nat
 tc:List Nat
 wt:List Nat
def dT:SV→List Nat
 | .ptr id _=>[id]
 | .os id=>[id]
 | .rp _ id _ _=>[id]
 | .gr id _=>[id]
 | .gp _ id _ _ _=>[id]
 | .vw _ id _ _=>[id]
 |_=>[]
def Au:SV→List Nat
 | .ls [.os id] =>[id]
 |s=>dT s
def ke:List SV→List Nat
 | [] =>[]
 |s::r=>Au s++ke r
def In:Ob→List Nat
 | .mi (some mid) _ _ _=>[mid]
 |_=>[]
def Io (h:List Ob):SV→List Nat
 | .ptr id _=>In (ah h id)
 |_=>[]
def fpO (cx:Cx):Op→List Nat×List Nat
 | .range _ m=>(dT (val cx m),[])
 | .entry it=>(dT (val cx it)++Io cx.st.h (val cx it),[])
 | .load _ a=>(dT (val cx a),[])
 | .store _ a x=>(dT (val cx a)++dT (val cx x),[])
 | .indexAddr _ x _=>(dT (val cx x),[])
 | .slice _ x _ _ _=>(dT (val cx x),[])
 | .lookup _ m _ ok=>bif ok then(dT (val cx m),[])else([],dT (val cx m))
 | .mapUpdate _ m _ _=>(dT (val cx m),[])
 | .insert _ m _ _=>(dT (val cx m),[])
 | .mapEntry _ m _=>(dT (val cx m),[])
 | .entryStore _ m _ _=>(dT (val cx m),[])
 | .call ⟨.builtin .len,args,_⟩ =>(ke (b9 cx args.toList),[])
 | .call ⟨.builtin .append,args,_⟩ =>(ke (b9 cx args.toList),[])
 | .call ⟨.builtin .delete,args,_⟩ =>(ke (b9 cx args.toList),[])
 | .call ⟨.builtin .clear,args,_⟩ =>(ke (b9 cx args.toList),[])
 |_=>([],[])
def dE:List Up→List Nat
 | [] =>[]
 |(id,_)::r=>id::dE r
def mW:Op→Bool
 | .mapEntry .. =>true
 |_=>false
def fpU (o:Op)(x:List Nat×List Nat)(all:List Nat)(ups:List Up):Fp:=
 bif mW o then ⟨all,x.1,x.2,[],dE ups⟩else ⟨all,x.1,x.2,dE ups,[]⟩
def BR (as:List Nat):List Edge→Nat
 | [] =>0
 |e::r=>bif Region.binds .any e then Nat.lor (Nat.lor ((nth as e.on).getD 0) (Nat.shiftLeft 1 e.on)) (BR as r)else BR as r
def un:List Oper→List Nat→List Nat
 | [],as=>as
 |o::r,as=>un r (as++[BR as o.after.toList])
def mr (as:List Nat)(i j:Nat):Bool:=Nat.testBit ((nth as i).getD 0) j
def vO (n:Nat):List Nat→Bool
 | [] =>false
 |m::r=>bif Nat.beq m n then true else vO n r
def mX:List Nat→List Nat→Bool
 | [],_=>false
 |a::r,l=>bif vO a l then true else mX r l
def mY (i e:Fp):Bool:=
 mX i.all e.tc||mX i.all e.wt||mX i.rd e.tc||mX i.rd e.wt||mX i.wk e.tc||mX i.tc e.tc||mX i.tc e.wt||mX i.wt e.tc||mX i.wt e.wt
def BS (as:List Nat)(i:Nat)(x:Fp):Nat→List Fp→Bool
 |_,[] =>true
 |j,y::r=>(Nat.beq i j|| !(mY x y) ||(Nat.blt j i&&mr as i j) ||(Nat.blt i j&&mr as j i))&&BS as i x (j+1) r
def Fh (as:List Nat)(b:Nat)(all:List Fp):Nat→List Fp→Bool
 |_,[] =>true
 |i,x::r=>BS as i x b all&&Fh as b all (i+1) r
def Nf (ops:List Oper)(b:Nat)(fps:List Fp):Bool:=Fh (un ops []) b fps b fps
def wN:List Fp→Bool
 | [] =>true
 |x::r=>x.tc.isEmpty&&x.wt.isEmpty&&wN r
def mt (ops:List Oper)(b:Nat)(fps:List Fp):Prop:=bif wN fps then True else Nf ops b fps=true
def Av (as:List Nat)(c:Nat):Nat→List Oper→Bool
 |_,[] =>true
 |i,_::r=>(Nat.beq i c||(Nat.blt i c&&mr as c i) ||(Nat.blt c i&&mr as i c))&&Av as c (i+1) r
def wO (ops:List Oper)(c:Nat):Bool:=Av (un ops []) c 0 ops
def cG (ops:List Oper)(t:List (Nat×SV)):Nat→Nat×Bool→Prop
 |0,_=>True
 |n+1,(j,want) =>match (nth ops j).bind (·.dst)with
  |some d=>match lk d t with
   | .v (.bool x) =>x=want
   | .gd j' b (.v (.bool x)) =>cG ops t n (j',b)∧x=want
   |_=>True
  |none=>True
def ed (ops:List Oper)(t:List (Nat×SV)):Nat→Nat×Bool→Prop
 |0,_=>True
 |n+1,(j,want) =>match (nth ops j).bind (·.dst)with
  |some d=>match lk d t with
   | .v (.bool x) =>¬x=want
   | .gd j' b (.v (.bool x)) =>ed ops t n (j',b)∨¬x=want
   |_=>True
  |none=>True
def oG (ops:List Oper)(t:List (Nat×SV)):Nat→Nat×Bool→Prop
 |0,_=>False
 |n+1,(j,want) =>match (nth ops j).bind (·.dst)with
  |some d=>match lk d t with
   | .v (.bool x) =>¬x=want
   | .gd j' b (.v (.bool x)) =>oG ops t n (j',b)∨¬x=want
   |_=>False
  |none=>False
def KU (szt off:Nat)(i:Int):Ob→SV
 | .row k l=>bif Nat.beq szt (aa k)then .ep (cellsOf k (l.getD i.toNat (cF k))) off else .any
 |_=>.any
def Fi (szt off:Nat)(i j:Int):Ob→SV
 | .grid k l=>bif Nat.beq szt (aa k)then .ep (cellsOf k ((l.getD i.toNat []).getD j.toNat (cF k))) off else .any
 |_=>.any
def Ip (i:Int):Ob→SV
 | .grid k l=>.rs k (l.getD i.toNat [])
 |_=>.any
def frz:Ob→SV
 | .row k l=>.rs k l
 | .mp kk vk l p=>bif noE p then .rm kk vk l else .any
 | .grid k l=>BD k l
 | .fz k l=>.rs k l
 |_=>.any
def GJ (f:SV→SV)(off:Nat):Ob→SV
 | .cells l=>.ep (l.map f) off
 |_=>.any
def KV (s:Nat)(lo hi:Int):Ob→SV
 | .row k l=>bif Nat.beq s (aa k)then .rs k ((l.take hi.toNat).drop lo.toNat)else .any
 |_=>.any
def dW (h:List Ob):Nat→SV→SV
 |_,.v x=>.v x
 |_,.rs k l=>.rs k l
 |_,.e0=>.e0
 |_,.rm k k2 l=>.rm k k2 l
 |_,.os id=>frz (ah h id)
 |_,.vw s id lo hi=>KV s lo hi (ah h id)
 |_,.rp s id i off=>bif Nat.beq s 0 then .any else KU s off i (ah h id)
 |_,.gp s id i j off=>bif Nat.beq s 0 then .any else Fi s off i j (ah h id)
 |_,.gr id i=>Ip i (ah h id)
 |n+1,.ptr id off=>GJ (dW h n) off (ah h id)
 |n+1,.ep l off=>.ep (l.map (dW h n)) off
 |n+1,.ls l=>.ls (l.map (dW h n))
 |n+1,.agg l=>.agg (l.map (dW h n))
 |n+1,.tup l=>.tup (l.map (dW h n))
 |n+1,.fn f first caps=>.fn f (first.map (dW h n)) (caps.map (dW h n))
 |_,_=>.any
def GK (f:SV→List Nat):Ob→List Nat
 | .cells l=>l.flatMap f
 |_=>[]
def fD (h:List Ob):Nat→SV→List Nat
 |_,.os id=>[id]
 |_,.rp _ id _ _=>[id]
 |_,.gp _ id _ _ _=>[id]
 |_,.gr id _=>[id]
 |_,.vw _ id _ _=>[id]
 |n+1,.ptr id _=>id::GK (fD h n) (ah h id)
 |n+1,.ep l _=>l.flatMap (fD h n)
 |n+1,.ls l=>l.flatMap (fD h n)
 |n+1,.agg l=>l.flatMap (fD h n)
 |n+1,.tup l=>l.flatMap (fD h n)
 |n+1,.fn _ first caps=>first.flatMap (fD h n)++caps.flatMap (fD h n)
 |_,_=>[]
def ungd:List (Nat×SV)→List (Nat×SV)
 | [] =>[]
 |(d,.gd ..)::r=>(d,.any)::ungd r
 |x::r=>x::ungd r
def bX:Nat→SV→Bool
 |_,.v _=>true
 |_,.rs _ _=>true
 |_,.rm _ _ _=>true
 |_,.e0=>true
 |_,.any=>true
 |n+1,.ep l _=>l.all (bX n)
 |n+1,.ls l=>l.all (bX n)
 |n+1,.agg l=>l.all (bX n)
 |n+1,.tup l=>l.all (bX n)
 |n+1,.fn _ l m=>l.all (bX n)&&m.all (bX n)
 |_,_=>false
def eM:Nat→SV→Bool
 |_,.v _=>true
 |_,.nw k _=>Nat.beq (rank k) 0
 |_,.nm k k2 _=>Nat.beq (rank k) 0&&Nat.beq (rank k2) 0
 |_,.ng k _=>Nat.beq (rank k) 0
 |n+1,.agg l=>l.all (eM n)
 |n+1,.tup l=>l.all (eM n)
 |_,_=>false
def aC:Nat→SV→List Ob
 |_,.nw k l=>[.row k l]
 |_,.nm k k2 l=>[.mp k k2 l none]
 |_,.ng k l=>[.grid k l]
 |n+1,.agg l=>l.flatMap (aC n)
 |n+1,.tup l=>l.flatMap (aC n)
 |_,_=>[]
def lA (f:Nat→SV→SV)(c:SV→Nat):Nat→List SV→List SV
 |_,[] =>[]
 |b,x::r=>f b x::lA f c (b+c x) r
def fE:Nat→Nat→SV→SV
 |_,b,.nw _ _=>.os b
 |_,b,.nm _ _ _=>.os b
 |_,b,.ng _ _=>.os b
 |n+1,b,.agg l=>.agg (lA (fE n) (fun s=>(aC n s).length) b l)
 |n+1,b,.tup l=>.tup (lA (fE n) (fun s=>(aC n s).length) b l)
 |_,_,s=>s
def dM:Nat→SV→List Nat
 |_,.ptr id _=>[id]
 |_,.os id=>[id]
 |_,.rp _ id _ _=>[id]
 |_,.gr id _=>[id]
 |_,.gp _ id _ _ _=>[id]
 |_,.vw _ id _ _=>[id]
 |n+1,.ep l _=>l.flatMap (dM n)
 |n+1,.ls l=>l.flatMap (dM n)
 |n+1,.agg l=>l.flatMap (dM n)
 |n+1,.tup l=>l.flatMap (dM n)
 |n+1,.fn _ l m=>l.flatMap (dM n)++m.flatMap (dM n)
 |n+1,.gd _ _ s=>dM n s
 |_,_=>[]
def Iq:Ob→List Nat
 | .cells l=>l.flatMap (dM 3)
 |_=>[]
def reach (h:List Ob):Nat→List Nat→List Nat→List Nat
 |0,_,acc=>acc
 |_+1,[],acc=>acc
 |n+1,id::todo,acc=>bif vO id acc then reach h n todo acc else reach h n (Iq (ah h id)++todo) (acc++[id])
def rk (id:Nat):List Nat→Option Nat
 | [] =>none
 |a::r=>bif Nat.beq a id then some 0 else(rk id r).map (· +1)
def ta (f:Nat→SV):Option Nat→SV
 |some k=>f k
 |none=>.any
def ren (m:Nat→Option Nat):Nat→SV→SV
 |_,.ptr id off=>ta (fun k=>.ptr k off) (m id)
 |_,.os id=>ta (fun k=>.os k) (m id)
 |_,.rp s id i off=>ta (fun k=>.rp s k i off) (m id)
 |_,.gr id i=>ta (fun k=>.gr k i) (m id)
 |_,.gp s id i j off=>ta (fun k=>.gp s k i j off) (m id)
 |_,.vw s id lo hi=>ta (fun k=>.vw s k lo hi) (m id)
 |n+1,.ep l o=>.ep (l.map (ren m n)) o
 |n+1,.ls l=>.ls (l.map (ren m n))
 |n+1,.agg l=>.agg (l.map (ren m n))
 |n+1,.tup l=>.tup (l.map (ren m n))
 |n+1,.fn f l l2=>.fn f (l.map (ren m n)) (l2.map (ren m n))
 |_,.any=>.any
 |_,.v x=>.v x
 |_,.e0=>.e0
 |_,.rs k l=>.rs k l
 |_,.rm k k2 l=>.rm k k2 l
 |_,_=>.any
def DK (kk vk:Tag)(l:List (kk.T×vk.T)):Option kk.T→Option Nat→Ob
 |p,some k=>.mp kk vk l (some (k,p))
 |some _,none=>.fwd none
 |none,none=>.mp kk vk l none
def oH (m:Nat→Option Nat):Ob→Ob
 | .cells l=>.cells (l.map (ren m 3))
 | .mi mid n left cur=>.mi (mid.bind m) n left cur
 | .fwd n=>.fwd (n.bind m)
 | .mp kk vk l (some (i,p)) =>DK kk vk l p (m i)
 |o=>o
def inN (ids:List Nat)(i:Nat):Option Nat:=rk i ids
def lV (h:List Ob)(ids:List Nat):List Ob:=ids.map fun id=>oH (inN ids) (ah h id)
def lQ (ids:List Nat)(b:Nat)(k:Nat):Option Nat:=match nth ids k with|some id=>some id|none=>some (b+(k - ids.length))
def gi (ids:List Nat)(b:Nat)(k:Nat):Nat:=match nth ids k with|some id=>id|none=>b+(k - ids.length)
def iI (ids:List Nat)(b:Nat)(h:List Ob):Nat→List Ob→List Ob
 |_,[] =>h
 |k,o::r=>iI ids b (bB h (gi ids b k) (oH (lQ ids b) o)) (k+1) r
def DL (ids:List Nat)(d:Option Nat)(st:St)(K:St→Prop)(Z:Value→St→Prop):Rs→Prop
 | .ret s h=>K (St.put ⟨st.t,iI ids st.h.length st.h 0 h⟩ d (ren (lQ ids st.h.length) 3 s))
 | .pan x h=>Z x ⟨ungd st.t,iI ids st.h.length st.h 0 h⟩
def GL (ids:List Nat)(g:Nat×Bool)(d:Option Nat)(st:St)(K:St→Prop)(Z:Value→St→Prop):Rs→Prop
 | .ret s h=>K (St.put ⟨st.t,iI ids st.h.length st.h 0 h⟩ d (.gd g.1 g.2 (ren (lQ ids st.h.length) 3 s)))
 | .pan x h=>Z x ⟨ungd st.t,iI ids st.h.length st.h 0 h⟩
def tb (ids:List Nat)(d:Option Nat)(st:St)(K:St→Prop)(Z:Value→St→Prop):Option HCon→Prop
 |some c=>c.pre∧∀ r,c.post r→DL ids d st K Z (c.res r)
 |none=>False
def sn (ids:List Nat)(ops:List Oper)(g:Nat×Bool)(d:Option Nat)(st:St)(K:St→Prop)(Z:Value→St→Prop):Option HCon→Prop
 |some c=>(cG ops st.t ops.length g→c.pre∧∀ r,c.post r→GL ids g d st K Z (c.res r))∧(ed ops st.t ops.length g→K (st.put d (.gd g.1 g.2 .any)))
 |none=>oG ops st.t ops.length g∧K (st.put d (.gd g.1 g.2 .any))
def pH (np:Bool)(ids:List Nat)(d:Option Nat)(st:St)(K:St→Prop)(Z:Value→St→Prop)(c:Option HCon):Option Con→Prop
 |some (.det p s) =>bif np||eM 3 s then(p∧K (St.put ⟨st.t,st.h++aC 3 s⟩ d (fE 3 st.h.length s)))else tb ids d st K Z c
 |some (.rel _ pre post out) =>pre∧(bif np then ∀ r,post r→K (St.put ⟨st.t,st.h++aC 3 (out r)⟩ d (fE 3 st.h.length (out r)))else False)
 |some (.may ok s x) =>bif np||eM 3 s then(ok=true→K (St.put ⟨st.t,st.h++aC 3 s⟩ d (fE 3 st.h.length s)))∧(ok=false→Z x ⟨ungd st.t,st.h⟩)else False
 |none=>tb ids d st K Z c
def wP (np:Bool)(ids:List Nat)(ops:List Oper)(g:Nat×Bool)(d:Option Nat)(st:St)(K:St→Prop)(Z:Value→St→Prop)(c:Option HCon):Option Con→Prop
 |some (.det p s) =>(cG ops st.t ops.length g→p)∧(bif(np||eM 3 s)&&(aC 3 s).isEmpty then K (st.put d (.gd g.1 g.2 s))else False)
 |none=>sn ids ops g d st K Z c
 |_=>False
def DM (id:Nat)(d:Option Nat)(st:St)(K:St→Prop):Option YCon→Prop
 |some c=>c.pre∧∀ r,c.post r→K (St.put ⟨st.t,bB st.h id (.ab (c.res r).2)⟩ d (.b (c.res r).1))
 |none=>False
def BT (id:Nat)(ops:List Oper)(g:Nat×Bool)(d:Option Nat)(st:St)(K:St→Prop):Option YCon→Prop
 |some c=>(cG ops st.t ops.length g→c.pre∧∀ r,c.post r→K (St.put ⟨st.t,bB st.h id (.ab (c.res r).2)⟩ d (.gd g.1 g.2 (.b (c.res r).1))))∧(ed ops st.t ops.length g→K (st.put d (.gd g.1 g.2 .any)))
 |none=>False
def Aw (G:Cons)(args:List SV):Ob→Option YCon
 | .ab r=>G.y args r
 |_=>none
def Ir (id mid n:Nat)(left:List Nat)(d:Option Nat)(st:St)(next:St→Prop):Ob→Prop
 | .mp kk vk l (some (it,none)) =>(it=id∧n=l.length)∧(left=[]→next (st.put d (.tup [.v (.bool false)])))∧
   ∀ j,j∈left→next (St.put ⟨st.t,bB st.h id (.mi (some mid) n (left.erase j) (some j))⟩ d (.tup [.v (.bool true),svT kk (l.getD j (cF kk,cF vk)).1,svT vk (l.getD j (cF kk,cF vk)).2]))
 |_=>False
def KW (id:Nat)(d:Option Nat)(st:St)(next:St→Prop):Ob→Prop
 | .mi (some mid) n left _=>Ir id mid n left d st next (ah st.h mid)
 |_=>False
def h_ (G:Cons)(d:Option Nat)(st:St)(next:St→Prop)(Z:Value→St→Prop):OR→Prop
 | .val s=>next (st.put d s)
 | .chk c s=>c∧next (st.put d s)
 | .asm c s=>c→next (st.put d s)
 | .newr s=>next (st.put d s)
 | .eff c a ups s=>c∧(a→next (St.put ⟨st.t,aP st.h ups⟩ d s))
 | .call f args=>pH (args.all (bX 3)) (reach st.h 64 (args.flatMap (dM 3)) []) d st next Z (G.o f (args.map (ren (inN (reach st.h 64 (args.flatMap (dM 3)) [])) 6)) (lV st.h (reach st.h 64 (args.flatMap (dM 3)) []))) (G.p f (args.map (dW st.h 6)))
 | .yld id args=>bif args.all (bX 3)then DM id d st next (Aw G args (ah st.h id))else False
 | .nxt id=>KW id d st next (ah st.h id)
 | .amb p=>∀ b,p b→next (st.put d (.v (.bool b)))
 | .pan x=>Z x ⟨ungd st.t,st.h⟩
 | .bad=>False
def stepG (G:Cons)(ops:List Oper)(g:Nat×Bool)(d:Option Nat)(st:St)(next:St→Prop)(Z:Value→St→Prop):OR→Prop
 | .val s=>next (st.put d (.gd g.1 g.2 s))
 | .chk c s=>(cG ops st.t ops.length g→c)∧next (st.put d (.gd g.1 g.2 s))
 | .asm _ s=>next (st.put d (.gd g.1 g.2 s))
 | .newr s=>next (st.put d (.gd g.1 g.2 s))
 | .eff c a ups s=>(cG ops st.t ops.length g→c∧(a→next (St.put ⟨st.t,aP st.h ups⟩ d (.gd g.1 g.2 s))))∧(ed ops st.t ops.length g→next (st.put d (.gd g.1 g.2 .any)))
 | .call f args=>wP (args.all (bX 3)) (reach st.h 64 (args.flatMap (dM 3)) []) ops g d st next Z (G.o f (args.map (ren (inN (reach st.h 64 (args.flatMap (dM 3)) [])) 6)) (lV st.h (reach st.h 64 (args.flatMap (dM 3)) []))) (G.p f (args.map (dW st.h 6)))
 | .yld id args=>bif args.all (bX 3)then BT id ops g d st next (Aw G args (ah st.h id))else False
 | .bad=>oG ops st.t ops.length g∧next (st.put d (.gd g.1 g.2 .any))
 | .nxt _=>False
 | .amb _=>False
 | .pan _=>False
def fF (ts:Tis)(G:Cons)(ops:List Oper):List Oper→St→(St→Prop)→(Value→St→Prop)→Prop
 | [],st,K,_=>K st
 |o::rest,st,K,Z=>match o.guard with
  |none=>h_ G o.dst st (fun st'=>fF ts G ops rest st' K Z) Z (opS ⟨ts,ops,none,st,st.h.length⟩ o.op)
  |some g=>stepG G ops g o.dst st (fun st'=>fF ts G ops rest st' K Z) Z (opS ⟨ts,ops,some g,st,st.h.length⟩ o.op)
structure Dr where
 c:Prop
 a:Prop
 s:SV
 ups:List Up
 all:List Nat
def drR (np:Bool)(rd:List Nat)(nx:Nat)(p:Prop)(s:SV):List Ob→Option Dr
 | [] =>bif np||eM 3 s then some ⟨p,True,s,[],rd⟩else none
 | [ob] =>bif np||eM 3 s then some ⟨p,True,fE 3 nx s,[(nx,ob)],rd⟩else none
 |_=>none
def drC (np:Bool)(rd:List Nat)(nx:Nat):Option Con→Option Dr
 |some (.det p s) =>drR np rd nx p s (aC 3 s)
 |_=>none
def fT (G:Cons)(h:List Ob)(nx:Nat):OR→Option Dr
 | .val s=>some ⟨True,True,s,[],[]⟩
 | .chk c s=>some ⟨c,True,s,[],[]⟩
 | .asm c s=>some ⟨True,c,s,[],[]⟩
 | .newr s=>some ⟨True,True,s,[],[]⟩
 | .eff c a ups s=>some ⟨c,a,s,ups,[]⟩
 | .call f args=>drC (args.all (bX 3)) (args.flatMap (fD h 6)) nx (G.p f (args.map (dW h 6)))
 | .bad=>some ⟨False,True,.any,[],[]⟩
 |_=>none
def drN (d:Option Nat)(st:St)(next:List Nat→List Up→St→Prop)(r:Dr):Prop:=r.c∧(r.a→next r.all r.ups (St.put ⟨st.t,aP st.h r.ups⟩ d r.s))
def drG (ops:List Oper)(g:Nat×Bool)(d:Option Nat)(st:St)(next:List Nat→List Up→St→Prop)(r:Dr):Prop:=
 bif r.ups.isEmpty then(cG ops st.t ops.length g→r.c)∧next r.all [] (st.put d (.gd g.1 g.2 r.s))
 else ¬ (cG ops st.t ops.length g∧ed ops st.t ops.length g)∧(cG ops st.t ops.length g→r.c∧(r.a→next r.all r.ups (St.put ⟨st.t,aP st.h r.ups⟩ d (.gd g.1 g.2 r.s))))∧(ed ops st.t ops.length g→next r.all [] (st.put d (.gd g.1 g.2 r.s)))
def so (d:Option Nat)(st:St)(next:List Nat→List Up→St→Prop)(cutp:Prop):Option Dr→Prop
 |some r=>drN d st next r
 |none=>cutp
def pJ (ops:List Oper)(g:Nat×Bool)(d:Option Nat)(st:St)(next:List Nat→List Up→St→Prop)(cutp:Prop):Option Dr→Prop
 |some r=>drG ops g d st next r
 |none=>cutp
def fU (ts:Tis)(G:Cons)(ops:List Oper)(K:St→Prop)(Z:Value→St→Prop):List Oper→(i b:Nat)→List Fp→St→Prop
 | [],_,b,fps,st=>mt ops b fps∧K st
 |o::rest,i,b,fps,st=>match o.guard with
  |none=>so o.dst st (fun all ups st'=>fU ts G ops K Z rest (i+1) b (fps++[fpU o.op (fpO ⟨ts,ops,none,st,st.h.length⟩ o.op) all ups]) st')
    (mt ops b fps∧wO ops i=true∧h_ G o.dst st (fun st'=>fU ts G ops K Z rest (i+1) (i+1) [] st') Z (opS ⟨ts,ops,none,st,st.h.length⟩ o.op))
    (fT G st.h st.h.length (opS ⟨ts,ops,none,st,st.h.length⟩ o.op))
  |some g=>pJ ops g o.dst st (fun all ups st'=>fU ts G ops K Z rest (i+1) b (fps++[fpU o.op (fpO ⟨ts,ops,some g,st,st.h.length⟩ o.op) all ups]) st')
    (mt ops b fps∧wO ops i=true∧stepG G ops g o.dst st (fun st'=>fU ts G ops K Z rest (i+1) (i+1) [] st') Z (opS ⟨ts,ops,some g,st,st.h.length⟩ o.op))
    (fT G st.h st.h.length (opS ⟨ts,ops,some g,st,st.h.length⟩ o.op))
def N_ (id:Nat):Ob→SV
 | .fwd (some n) =>.os n
 |_=>.os id
def Is (h:List Ob):SV→SV
 | .os id=>N_ id (ah h id)
 |s=>s
def DN (h:List Ob):List (Nat×SV)→List (Nat×SV)
 | [] =>[]
 |(d,s)::r=>(d,Is h s)::DN h r
def Fj:Ob→Bool
 | .fwd (some _) =>true
 |_=>false
def iN:List Ob→Bool
 | [] =>false
 |o::r=>Fj o||iN r
def Oa:Ob→Ob
 | .fwd _=>.dead
 |o=>o
def rH:List Ob→List Ob
 | [] =>[]
 |o::r=>Oa o::rH r
def cleanF (st:St):St:=bif iN st.h then ⟨DN st.h st.t,rH st.h⟩else st
def pK (ops:List Oper)(st:St):St:=cleanF (bif ops.any (·.guard.isSome)then ⟨ungd st.t,st.h⟩else st)
inductive Ex where
 |normal
 |exit (id:Nat)
 |ret
 |pan (x:Value)
def Ex.then (K:St→Prop)(Q:Ex→St→Prop):Ex→St→Prop
 | .normal,st=>K st
 |e,st=>Q e st
def Ex.block (id:Nat)(Q:Ex→St→Prop):Ex→St→Prop
 | .exit j,st=>bif Nat.beq j id then Q .normal st else Q (.exit j) st
 |e,st=>Q e st
def rI (x y:Prop):SV→Prop
 | .v (.bool b) =>(b=true→x)∧(b=false→y)
 |_=>False
structure LCon where
 α:Type
 pre:Prop
 post:α→Prop
 ex:α→Ex
 out:α→St
abbrev o_:=Nat→St→Option LCon
def lR (Q:Ex→St→Prop):Option LCon→Prop
 |some c=>c.pre∧∀ r,c.post r→Q (c.ex r) (c.out r)
 |none=>False
def It:Operand→Nat
 | .tmp n=>n+1000000
 |_=>0
def subJ (t:List (Nat×SV)):List (Nat×SV)→Prop
 | [] =>True
 |(n,s)::r=>lk n t=s∧subJ t r
def inJ (d:St):Ex→St→Prop
 | .normal,st=>st.h=d.h∧subJ st.t d.t
 |_,_=>False
def Iu (x y:(Ex→St→Prop)→Prop)(Q:Ex→St→Prop)(s:SV)(c:LCon):Prop:=
 rI (x fun e st=>∃ r,c.post r∧inJ (c.out r) e st) (y fun e st=>∃ r,c.post r∧inJ (c.out r) e st) s∧∀ r,c.post r→Q .normal (c.out r)
def wQ (x y:(Ex→St→Prop)→Prop)(Q:Ex→St→Prop)(s:SV):Option LCon→Prop
 |none=>rI (x Q) (y Q) s
 |some c=>Iu x y Q s c
def JC (d:St):LCon:=⟨Unit,True,fun _=>True,fun _=>.normal,fun _=>d⟩
def Sw (c:LCon)(Q:Ex→St→Prop):Ex→St→Prop
 | .normal,st=>∃ r,c.post r∧inJ (c.out r) .normal st
 |e,st=>Q e st
def inC (d:St)(Q:Ex→St→Prop):Ex→St→Prop
 | .normal,st=>inJ d .normal st
 |e,st=>Q e st
def cutL (x:(Ex→St→Prop)→Prop)(Q:Ex→St→Prop)(c:LCon):Prop:=x (Sw c Q)∧∀ r,c.post r→Q .normal (c.out r)
def wR (x:(Ex→St→Prop)→Prop)(Q:Ex→St→Prop):Option LCon→Prop
 |none=>x Q
 |some c=>cutL x Q c
def u7 (ts:Tis)(G:Cons)(ops:Array Oper)(d:Bool)(st:St)(Q:Ex→St→Prop):Prop:=
 bif d then fU ts G ops.toList (fun st'=>Q .normal (pK ops.toList st')) (fun x st'=>Q (.pan x) st') ops.toList 0 0 [] st
   else fF ts G ops.toList ops.toList st (fun st'=>Q .normal (pK ops.toList st')) (fun x st'=>Q (.pan x) st')
def exec (ts:Tis)(G:Cons)(L:o_):Code→St→(Ex→St→Prop)→Prop
 | .skip,st,Q=>Q .normal st
 | .region id ops d,st,Q=>wR (u7 ts G ops d st) Q (L (id+2000000) st)
 | .seq a b,st,Q=>exec ts G L a st (Ex.then (fun st'=>exec ts G L b st' Q) Q)
 | .cond c x y,st,Q=>wQ (exec ts G L x st) (exec ts G L y st) Q (raw st.t c) (L (It c) st)
 | .block id (.loop _),st,Q=>lR Q (L id st)
 | .block id (.rangeFunc ..),st,Q=>lR Q (L id st)
 | .block id c,st,Q=>exec ts G L c st (Ex.block id Q)
 | .exit id,st,Q=>Q (.exit id) st
 | .ret,st,Q=>Q .ret st
 | .scope c,st,Q=>exec ts G L c st Q
 | .label _,st,Q=>Q .normal st
 |_,_,_=>False
def KX:OR→Option SV
 | .val s=>some s
 |_=>none
def GM (ts:Tis)(st:St):ResultVar→Option SV
 | .tmp n=>some (lk n st.t)
 | .cell q t=>KX (az ts t fun ti=>kV ti st.h (lk q st.t))
def BU:Option SV→Option (List SV)→Option (List SV)
 |some s,some l=>some (s::l)
 |_,_=>none
def kh (ts:Tis)(st:St):List ResultVar→Option (List SV)
 | [] =>some []
 |x::r=>BU (GM ts st x) (kh ts st r)
def lW:Option (List SV)→Option SV
 |some [s] =>some s
 |some l=>some (.tup l)
 |none=>none
def Sy (h:List Ob):Option SV→Option SV
 |some s=>some (dW h 4 s)
 |none=>none
def td (rs:List ResultVar)(ts:Tis)(st:St):Option SV:=Sy st.h (lW (kh ts st rs))
def pL:Ob→SV
 | .row k l=>.nw k l
 | .mp k k2 l none=>.nm k k2 l
 | .grid k l=>.ng k l
 |_=>.any
def rJ (h:List Ob):Nat→SV→SV
 |_,.os id=>pL (ah h id)
 |n+1,.agg l=>.agg (l.map (rJ h n))
 |n+1,.tup l=>.tup (l.map (rJ h n))
 |_,.v x=>.v x
 |_,.rs k l=>.rs k l
 |_,.rm k k2 l=>.rm k k2 l
 |_,.e0=>.e0
 |n,s=>bif bX n s then s else .any
def oI:Nat→SV→List Nat
 |_,.os id=>[id]
 |n+1,.agg l=>l.flatMap (oI n)
 |n+1,.tup l=>l.flatMap (oI n)
 |_,_=>[]
def uniq:List Nat→Bool
 | [] =>true
 |a::r=>!(vO a r)&&uniq r
def u9 (h:List Ob)(s:SV):Option SV:=bif uniq (oI 3 s)&&(oI 3 s).all (fun i=>Nat.blt i h.length)then some (rJ h 3 s)else none
def Ng (h:List Ob):Option SV→Option SV
 |some s=>u9 h s
 |none=>none
def GN (rs:List ResultVar)(ts:Tis)(st:St):Option SV:=Ng st.h (lW (kh ts st rs))
def sp (m:Bool)(rs:List ResultVar)(ts:Tis)(st:St):Option SV:=bif m then GN rs ts st else td rs ts st
def wc (ops:List Oper)(i:Nat)(o:Oper):Bool:=
 match o.guard with
 |none=>true
 |some (j,_) =>Nat.blt j i&&(match (nth ops j).bind (·.dst)with
  |some d=>(List.range ops.length).all fun k=>Nat.beq k j||(match (nth ops k).bind (·.dst)with|some e=>!(Nat.beq d e) |none=>true)
  |none=>false)
def Iv (N:Nat)(ops:List Oper):Bool:=
 (List.range ops.length).all fun i=>match nth ops i with
  |some o=>(match o.dst with|some d=>Nat.blt d N|none=>true)&&wc ops i o
  |none=>true
def kg (o:Oper)(k:Nat):Bool:=o.after.toList.any fun e=>Nat.beq e.on k&&Region.binds .any e
def DO (ops:Array Oper):Bool:=
 (List.range ops.size).all fun i=>match nth ops.toList i with
  |some o=>
   (o.after.toList.all fun e=>!(Region.binds .any e) ||Nat.blt e.on i)&&
   (List.range ops.size).all fun k=>match nth ops.toList k with
    |some q=>match q.dst with
     |some d=>(Nat.beq k i|| !(o.dst==some d))&&(!((o.looksAt ops).contains d) ||Nat.beq k i||(Nat.blt k i&&kg o k) ||(Nat.blt i k&&kg q i))
     |none=>true
    |none=>true
  |none=>true
def b_ (N:Nat):Code→Bool
 | .region _ ops d=>Iv N ops.toList&&(!d||DO ops)
 | .seq a b=>b_ N a&&b_ N b
 | .cond _ a b=>b_ N a&&b_ N b
 | .block _ c=>b_ N c
 | .loop c=>b_ N c
 | .scope c=>b_ N c
 | .rangeFunc _ _ a b=>b_ N a&&b_ N b
 |_=>true
def iJ:Nat→Nat→SV→Bool
 |_,_,.v _=>true
 |_,_,.rs _ _=>true
 |_,_,.rm _ _ _=>true
 |_,_,.any=>true
 |_,_,.e0=>true
 |_,n,.ptr id _=>Nat.blt id n
 |_,n,.os id=>Nat.blt id n
 |_,n,.rp _ id _ _=>Nat.blt id n
 |_,n,.gr id _=>Nat.blt id n
 |_,n,.gp _ id _ _ _=>Nat.blt id n
 |_,n,.vw _ id _ _=>Nat.blt id n
 |f+1,n,.ep l _=>l.all (iJ f n)
 |f+1,n,.ls l=>l.all (iJ f n)
 |f+1,n,.agg l=>l.all (iJ f n)
 |f+1,n,.tup l=>l.all (iJ f n)
 |f+1,n,.fn _ l m=>l.all (iJ f n)&&m.all (iJ f n)
 |_,_,_=>false
def GO (m:Nat→Option Nat)(n:Nat)(t:List (Nat×SV)):List (Nat×SV)→Prop
 | [] =>True
 |(i,s)::r=>(lk i t=ren m 5 s∧iJ 5 n s=true)∧GO m n t r
def co:Ob→Bool
 | .dead=>true
 |_=>false
def pa (n:Nat):Ob→Bool
 | .cells l=>l.all (iJ 3 n)
 | .mi (some i) _ _ _=>Nat.blt i n
 | .fwd (some i) =>Nat.blt i n
 | .mp _ _ _ (some (i,_)) =>Nat.blt i n
 |_=>true
def unp {κ:Type}:Option (Nat×Option κ)→Option (Nat×Option κ)
 |some (_,none) =>none
 |p=>p
def wS:Ob→Ob→Ob
 | .mp _ _ _ none,.mp kk vk l p=>.mp kk vk l (unp p)
 |_,o=>o
def Ax (m:Nat→Option Nat)(n:Nat)(h:List Ob)(j:Nat)(o:Ob):Prop:=bif co o then True else wS o (ah h j)=oH m o∧pa n o=true
def yP (m:Nat→Option Nat)(n:Nat)(h:List Ob):List Nat→List Ob→Prop
 | [],[] =>True
 |j::js,o::r=>Ax m n h j o∧yP m n h js r
 |_,_=>False
def ix:List Nat→List Ob→List Nat
 |j::js,o::r=>bif co o then ix js r else j::ix js r
 |_,_=>[]
def uo:Nat→List Nat→Nat→Bool
 |_,[],_=>true
 |i,j::js,n=>(Nat.beq i j||Nat.ble n i)&&uo (i+1) js n
def vP (js:List Nat)(i:Nat):Option Nat:=nth js i
def Sub (js:List Nat)(n0:Nat)(st st2:St):Prop:=
 (uniq (ix js st2.h)=true∧uo 0 js n0=true∧js.all (fun j=>Nat.blt j st.h.length)=true)∧GO (vP js) st2.h.length st.t st2.t∧yP (vP js) st2.h.length st.h js st2.h
def oJ {σ:Type}(D:σ→St)(I:σ→Prop)(m:σ→Nat)(n0:Nat)(x:σ)(id:Nat)(Q:Ex→St→Prop):Ex→St→Prop
 | .normal,st=>∃ y js,I y∧m y<m x∧n0≤(D y).h.length∧Sub js n0 st (D y)
 | .exit j,st=>bif Nat.beq j id then Q .normal st else Q (.exit j) st
 | .ret,st=>Q .ret st
 | .pan x,st=>Q (.pan x) st
def jH:Nat→List SV→List (Nat×SV)
 |_,[] =>[]
 |n,s::r=>(n,s)::jH (n+1) r
def dA (post:SV→Prop):Option SV→Prop
 |some s=>post s
 |none=>False
def BV (m:Bool)(rs:List ResultVar)(ts:Tis)(post:SV→Prop)(pp:Value→Prop):Ex→St→Prop
 | .exit _,_=>False
 | .normal,st=>dA post (sp m rs ts st)
 | .ret,st=>dA post (sp m rs ts st)
 | .pan x,_=>pp x
def tf (n0:Nat)(C:HCon):Option SV→List Ob→Prop
 |some s,h=>∃ r s' h' js,C.post r∧C.res r=.ret s' h'∧n0≤h'.length∧Sub js n0 ⟨[(0,s)],h⟩ ⟨[(0,s')],h'⟩
 |none,_=>False
def BW (n0:Nat)(rs:List ResultVar)(ts:Tis)(C:HCon):Ex→St→Prop
 | .exit _,_=>False
 | .normal,st=>tf n0 C (lW (kh ts st rs)) st.h
 | .ret,st=>tf n0 C (lW (kh ts st rs)) st.h
 | .pan x,st=>∃ r h' js,C.post r∧C.res r=.pan x h'∧n0≤h'.length∧Sub js n0 ⟨[],st.h⟩ ⟨[],h'⟩
structure Hd where
 p:Option Nat:=none
 v:Value:=undef
 vs:List Value:=[]
 bs:List Nat:=[]
abbrev Own:=Nat→Option Hd
def bV (F:Nat→Prop)(own:Own)(b:Nat):Prop:=F b∨∃ id hd,own id=some hd∧b∈hd.bs
def cp:Own:=fun _=>none
def Hd.like (a b:Hd):Prop:=b.p=a.p∧b.v=a.v∧b.vs=a.vs
theorem Hd.like.refl (a:Hd):a.like a:=⟨rfl,rfl,rfl⟩
theorem Hd.like.trans {a b c:Hd}(h:a.like b)(h':b.like c):a.like c:=⟨h'.1.trans h.1,h'.2.1.trans h.2.1,h'.2.2.trans h.2.2⟩
def kW:Value→Bool
 | .agg _=>false
 | .tuple _=>false
 |_=>true
theorem wT {v:Value}(h:kW v=true):v.cells= #[v]:=by cases v <;>first|rfl|simp[kW]at h
theorem iy {v:Value}(h:kW v=true):v.oneCell'=true:=by cases v <;>first|rfl|simp[kW]at h
def Oc (x:Value)(sz:Nat)(lo hi:Int)(a:Option Addr):Prop:=hi.toNat≤lo.toNat∨∃ b o n cap,x=.slice (some ⟨b,o,none⟩) n cap∧hi.toNat≤n∧a=some ⟨b,o+lo.toNat*sz,none⟩
inductive Rel (F:Nat→Prop)(own:Own)(w:World):SV→Value→Prop where
 |any (v:Value):Rel F own w .any v
 |v (x:Value):Rel F own w (.v x) x
 |ptr {id off b:Nat} {hd:Hd}:own id=some hd→hd.p=some b→Rel F own w (.ptr id off) (.pointer (some ⟨b,off,none⟩))
 |os {id:Nat} {hd:Hd}:own id=some hd→kW hd.v=true→Rel F own w (.os id) hd.v
 |e0 {a:Option Addr}:Rel F own w .e0 (.slice a 0 0)
 |rp {sz id off n cap b o:Nat} {i:Int} {hd:Hd}:own id=some hd→hd.v=.slice (some ⟨b,o,none⟩) n cap→i.toNat<n→Rel F own w (.rp sz id i off) (.pointer (some ⟨b,o+i.toNat*sz+off,none⟩))
 |gr {id:Nat} {i:Int} {v:Value} {hd:Hd}:own id=some hd→hd.vs[i.toNat]? =some v→kW v=true→Rel F own w (.gr id i) v
 |gp {sz id off n cap b o:Nat} {i j:Int} {hd:Hd}:own id=some hd→hd.vs[i.toNat]? =some (.slice (some ⟨b,o,none⟩) n cap)→j.toNat<n→Rel F own w (.gp sz id i j off) (.pointer (some ⟨b,o+j.toNat*sz+off,none⟩))
 |vw {sz id cap:Nat} {lo hi:Int} {hd:Hd} {a:Option Addr}:own id=some hd→Oc hd.v sz lo hi a→hi.toNat - lo.toNat≤cap→Rel F own w (.vw sz id lo hi) (.slice a (hi.toNat - lo.toNat) cap)
 |ep {cells:List SV} {off b o:Nat} (c:Nat→Value):
   (∀ j s,cells[j]? =some s→¬bV F own b∧w.cell? ⟨b,o+j,none⟩=some (c j))→(∀ j s,cells[j]? =some s→Rel F own w s (c j))→
   Rel F own w (.ep cells off) (.pointer (some ⟨b,o+off,none⟩))
 |rs {k:Tag} {l:List k.T} {b o cap:Nat} (c:Nat→Nat→Value):l.length≤cap→l.length≤a7→
   (∀ (i:Nat) (x:k.T),l[i]? =some x→∀ (j:Nat) (s:SV),(cellsOf k x)[j]? =some s→¬bV F own b∧w.cell? ⟨b,o+i*aa k+j,none⟩=some (c i j))→
   (∀ (i:Nat) (x:k.T),l[i]? =some x→∀ (j:Nat) (s:SV),(cellsOf k x)[j]? =some s→Rel F own w s (c i j))→
   Rel F own w (.rs k l) (.slice (some ⟨b,o,none⟩) l.length cap)
 |rs0 {k:Tag} {a:Option Addr} {cap:Nat}:Rel F own w (.rs k []) (.slice a 0 cap)
 |ls {l:List SV} {b o cap:Nat} (c:Nat→Value):l.length≤cap→
   (∀ j s,l[j]? =some s→¬bV F own b∧w.cell? ⟨b,o+j,none⟩=some (c j))→(∀ j s,l[j]? =some s→Rel F own w s (c j))→
   Rel F own w (.ls l) (.slice (some ⟨b,o,none⟩) l.length cap)
 |rm {kk vk:Tag} {l:List (kk.T×vk.T)} {b:Nat} (ck cv:Nat→Value) (es:Array MapEntry) (clock:Nat):¬bV F own b→w.heap[b]? =some (.map es clock)→es.size=l.length→
   (∀ (i:Nat) (x:kk.T×vk.T),l[i]? =some x→∃ n,es[i]? =some ⟨ck i,cv i,n⟩)→
   (∀ (i:Nat) (x:kk.T×vk.T),l[i]? =some x→Rel F own w (svT kk x.1) (ck i))→(∀ (i:Nat) (x:kk.T×vk.T),l[i]? =some x→Rel F own w (svT vk x.2) (cv i))→
   Rel F own w (.rm kk vk l) (.map (some b))
 |rm0 {kk vk:Tag}:Rel F own w (.rm kk vk []) (.map none)
 |agg {l:List SV} {vs:Array Value}:vs.size=l.length→(∀ (j:Nat) (s:SV),l[j]? =some s→Rel F own w s (vs.getD j undef))→Rel F own w (.agg l) (.agg vs)
 |tup {l:List SV} {vs:Array Value}:vs.size=l.length→(∀ (j:Nat) (s:SV),l[j]? =some s→Rel F own w s (vs.getD j undef))→Rel F own w (.tup l) (.tuple vs)
 |fn {f:FuncId} {first caps:List SV} {us vs:Array Value}:us.size=first.length→vs.size=caps.length→(∀ (j:Nat) (s:SV),first[j]? =some s→Rel F own w s (us.getD j undef))→
   (∀ (j:Nat) (s:SV),caps[j]? =some s→Rel F own w s (vs.getD j undef))→Rel F own w (.fn f first caps) (.func (.func f) us vs)
structure Goes (F:Nat→Prop)(own:Own)(w:World)(own':Own)(w':World):Prop where
 ids:∀ (id:Nat) (hd:Hd),own id=some hd→∃ hd',own' id=some hd'∧hd.like hd'
 keep:∀ b,b<w.heap.size→¬bV F own b→¬bV F own' b∧w'.heap[b]? =w.heap[b]?
 size:w.heap.size≤w'.heap.size
structure Bs where
 w:World
 own:Own:=cp
 ds:List Deferred:=[]
def Old (B:Bs)(b:Nat):Prop:=b<B.w.heap.size∧¬ ∃ id hd,B.own id=some hd∧b∈hd.bs
structure Fr (B:Bs)(own:Own)(w:World):Prop where
 ids:∀ (id:Nat) (hd:Hd),B.own id=some hd→∃ hd',own id=some hd'∧hd.like hd'
 base:∀ (id:Nat) (hd:Hd) (b:Nat),own id=some hd→b∈hd.bs→¬Old B b
 os:w.os=B.w.os
 tape:w.tape=B.w.tape
 output:w.output=B.w.output
 size:B.w.heap.size≤w.heap.size
 block:∀ k,Old B k→w.heap[k]? =B.w.heap[k]?
theorem Fr.refl (B:Bs):Fr B B.own B.w:=⟨fun _ hd h=>⟨hd,h,.refl _⟩,fun id hd _ h hb ho=>ho.2 ⟨id,hd,h,hb⟩,rfl,rfl,rfl,Nat.le_refl _,fun _ _=>rfl⟩
theorem Fr.below {B:Bs}{own:Own}{w w':World}(h:Fr B own w)(hb:Below w.heap.size w w'):Fr B own w':=
 ⟨h.ids,h.base,hb.os.trans h.os,hb.tape.trans h.tape,hb.output.trans h.output,Nat.le_trans h.size hb.size,fun k hk=>(hb.block k (Nat.lt_of_lt_of_le hk.1 h.size)).trans (h.block k hk)⟩
theorem Fr.drew {B:Bs}{own:Own}{w:World}(h:Fr B own w):Fr B own { w with drawn:=w.drawn+1}:=⟨h.ids,h.base,h.os,h.tape,h.output,h.size,h.block⟩
theorem Fr.trans {B:Bs}{own own':Own}{w w':World}(h:Fr B own w)(h':Fr { w:=w,own:=own} own' w'):Fr B own' w':=by
 have hold:∀ k,Old B k→Old { w:=w,own:=own} k:=fun k hk=>⟨Nat.lt_of_lt_of_le hk.1 h.size,fun⟨id,hd,hm,hb⟩ =>h.base id hd k hm hb hk⟩;refine⟨fun id hd hi=>?_,fun id hd b hi hb ho=>h'.base id hd b hi hb (hold b ho),h'.os.trans h.os,h'.tape.trans h.tape,h'.output.trans h.output,Nat.le_trans h.size h'.size,
  fun k hk=>(h'.block k (hold k hk)).trans (h.block k hk)⟩
 obtain⟨hd1,e1,l1⟩:=h.ids id hd hi;obtain⟨hd2,e2,l2⟩:=h'.ids id hd1 e1;exact⟨hd2,e2,l1.trans l2⟩
theorem Fr.goes {F:Nat→Prop}{own own':Own}{w w':World}(h:Fr { w:=w,own:=own} own' w'):Goes F own w own' w':=
 ⟨h.ids,fun b hb hn=>by
  have ho:Old { w:=w,own:=own} b:=⟨hb,fun⟨id,hd,hm,he⟩ =>hn (.inr ⟨id,hd,hm,he⟩)⟩;refine⟨?_,h.block b ho⟩;rintro (hf| ⟨id,hd,hm,he⟩)
  ·exact hn (.inl hf)
  ·exact h.base id hd b hm he ho,h.size⟩
theorem Fr.of_step {own own':Own}{w w':World}(ids:∀ (id:Nat) (hd:Hd),own id=some hd→∃ hd',own' id=some hd'∧hd.like hd')
  (bs:∀ id hd b,own' id=some hd→b∈hd.bs→(∃ id' hd',own id'=some hd'∧b∈hd'.bs)∨w.heap.size≤b)
  (block:∀ b,b<w.heap.size→(¬ ∃ id hd,own id=some hd∧b∈hd.bs)→w'.heap[b]? =w.heap[b]?) (size:w.heap.size≤w'.heap.size)
  (os:w'.os=w.os) (tape:w'.tape=w.tape) (output:w'.output=w.output):Fr { w:=w,own:=own} own' w':=
 ⟨ids,fun id hd b h1 h2 ho=>by
  rcases bs id hd b h1 h2 with h|h
  ·exact ho.2 h
  ·have:=ho.1;simp at this;omega,os,tape,output,size,fun k hk=>block k hk.1 hk.2⟩
theorem Ay {w:World}{b o:Nat}{v:Value}(h:w.cell? ⟨b,o,none⟩=some v):b<w.heap.size:=World.block_lt_of_cell? w _ h
theorem mf {w w':World}{b:Nat}(h:w'.heap[b]? =w.heap[b]?)(o:Nat):w'.cell? ⟨b,o,none⟩=w.cell? ⟨b,o,none⟩:=by
 simp only[World.cell?,h]
theorem jI {w:World}{b:Nat}{o:Obj}(h:w.heap[b]? =some o):b<w.heap.size:=by
 rcases Nat.lt_or_ge b w.heap.size with h'|h'
 ·exact h'
 ·simp[Array.getElem?_eq_none h']at h
structure Carries (F:Nat→Prop)(own:Own)(w:World)(F':Nat→Prop)(own':Own)(w':World):Prop where
 ids:∀ (id:Nat) (hd:Hd),own id=some hd→∃ hd',own' id=some hd'∧hd.like hd'
 keep:∀ b,b<w.heap.size→¬bV F own b→¬bV F' own' b∧w'.heap[b]? =w.heap[b]?
theorem Goes.carries {F:Nat→Prop}{own own':Own}{w w':World}(g:Goes F own w own' w'):Carries F own w F own' w':=⟨g.ids,g.keep⟩
theorem Rel.carry {F F':Nat→Prop}{own own':Own}{w w':World}(g:Carries F own w F' own' w'){s:SV}{v:Value}(h:Rel F own w s v):Rel F' own' w' s v:=by
 induction h with
 |any v=>exact .any v
 |v x=>exact .v x
 |ptr h1 h2=>obtain⟨hd',e,l⟩:=g.ids _ _ h1;exact .ptr e (l.1.trans h2)
 |os h1 h2=>obtain⟨hd',e,l⟩:=g.ids _ _ h1;rw[←l.2.1]at h2 ⊢;exact .os e h2
 |e0=>exact .e0
 |rp h1 h2 h3=>obtain⟨hd',e,l⟩:=g.ids _ _ h1;exact .rp e (l.2.1.trans h2) h3
 |gr h1 h2 h3=>obtain⟨hd',e,l⟩:=g.ids _ _ h1;exact .gr e (by rw[l.2.2];exact h2) h3
 |gp h1 h2 h3=>obtain⟨hd',e,l⟩:=g.ids _ _ h1;exact .gp e (by rw[l.2.2];exact h2) h3
 |vw h1 h2 h3=>obtain⟨hd',e,l⟩:=g.ids _ _ h1;exact .vw e (by rw[l.2.1];exact h2) h3
 |ep c h1 _ ih=>
  refine .ep c (fun j s hj=>?_) ih;obtain⟨hn,hc⟩:=h1 j s hj;obtain⟨hn',hk⟩:=g.keep _ (Ay hc) hn;exact⟨hn',by rw[mf hk];exact hc⟩
 |rs c h0 h0' h1 _ ih=>
  refine .rs c h0 h0' (fun i x hi j s hj=>?_) ih;obtain⟨hn,hc⟩:=h1 i x hi j s hj;obtain⟨hn',hk⟩:=g.keep _ (Ay hc) hn;exact⟨hn',by rw[mf hk];exact hc⟩
 |rs0=>exact .rs0
 |ls c h0 h1 _ ih=>
  refine .ls c h0 (fun j s hj=>?_) ih;obtain⟨hn,hc⟩:=h1 j s hj;obtain⟨hn',hk⟩:=g.keep _ (Ay hc) hn;exact⟨hn',by rw[mf hk];exact hc⟩
 |rm ck cv es clock h0 h1 h2 h3 _ _ ih1 ih2=>
  obtain⟨hn',hk⟩:=g.keep _ (jI h1) h0;exact .rm ck cv es clock hn' (by rw[hk];exact h1) h2 h3 ih1 ih2
 |rm0=>exact .rm0
 |agg h0 _ ih=>exact .agg h0 ih
 |tup h0 _ ih=>exact .tup h0 ih
 |fn h0 h0' _ _ ih1 ih2=>exact .fn h0 h0' ih1 ih2
theorem Rel.mono {F:Nat→Prop}{own own':Own}{w w':World}(g:Goes F own w own' w'){s:SV}{v:Value}(h:Rel F own w s v):Rel F own' w' s v:=h.carry g.carries
theorem Goes.refl (F:Nat→Prop)(own:Own)(w:World):Goes F own w own w:=⟨fun _ hd h=>⟨hd,h,.refl _⟩,fun _ _ h=>⟨h,rfl⟩,Nat.le_refl _⟩
theorem kX (w:World)(o:Obj)(b:Nat)(h:b<w.heap.size):(w.alloc o).heap[b]? =w.heap[b]?:=Below.heap_alloc w o b h
theorem ia (w:World)(o:Obj):(w.alloc o).heap[w.heap.size]? =some o:=by show(w.heap.push o)[w.heap.size]? =_;simp
theorem fP (w:World)(o:Obj):(w.alloc o).heap.size=w.heap.size+1:=by show(w.heap.push o).size=_;simp
theorem Goes.below (F:Nat→Prop)(own:Own){w w':World}(h:Below w.heap.size w w'):Goes F own w own w':=
 ⟨fun _ hd h=>⟨hd,h,.refl _⟩,fun b hb hn=>⟨hn,h.block b hb⟩,h.size⟩
theorem kY (w:World)(o:Obj):Below w.heap.size w (w.alloc o):=(Below.refl _ _).alloc (Nat.le_refl _) o
theorem dZ {α:Type}:∀ (l:List α) (i:Nat),nth l i=l[i]?
 | [],i=>by simp[nth]
 |x::r,0=>by simp[nth]
 |x::r,i+1=>by simp[nth,dZ r i]
theorem mu:∀ l:List SV,sz l=l.length
 | [] =>rfl
 |x::r=>by simp[sz,mu r]
theorem Az:∀ (n:Nat) (l:List SV),cut n l=l.take n
 |0,l=>by simp[cut]
 |n+1,[] =>by simp[cut]
 |n+1,x::r=>by simp[cut,Az n r]
theorem wd:∀ (n:Nat) (l:List SV),BK n l=l.drop n
 |0,l=>by simp[BK]
 |n+1,[] =>by simp[BK]
 |n+1,x::r=>by simp[BK,wd n r]
theorem tg:∀ (l:List SV) (i:Nat) (s:SV),wD l i s=l.set i s
 | [],i,s=>by simp[wD]
 |x::r,0,s=>by simp[wD]
 |x::r,i+1,s=>by simp[wD,tg r i s]
theorem jf:∀ (vs cells:List SV) (off:Nat),(eF cells off vs).length=cells.length
 | [],cells,off=>rfl
 |x::xs,cells,off=>by simp[eF,jf xs,tg]
theorem jJ:∀ (vs cells:List SV) (off:Nat),off+vs.length≤cells.length→∀ j,(eF cells off vs)[j]? =if off≤j∧j<off+vs.length then vs[j - off]? else cells[j]?
 | [],cells,off,_,j=>by simp only[eF,List.length_nil];rw[if_neg (by omega)]
 |x::xs,cells,off,h,j=>by
  simp only[List.length_cons]at h;rw[eF,jJ xs _ _ (by simp[tg];omega),tg];by_cases hj:off+1≤j∧j<off+1+xs.length
  ·rw[if_pos hj,if_pos (by simp;omega),show j - off=(j - (off+1))+1 by omega,List.getElem?_cons_succ]
  ·rw[if_neg hj,List.getElem?_set];by_cases hjo:off=j
   ·subst hjo;rw[if_pos rfl,if_pos (by omega),if_pos (by simp)];simp
   ·rw[if_neg hjo,if_neg (by simp;omega)]
theorem lX:∀ (h:List Ob) (id:Nat),ah h id=(h[id]?).getD .dead
 | [],id=>by simp[ah]
 |o::r,0=>by simp[ah]
 |o::r,n+1=>by simp[ah,lX r n]
theorem cj:∀ (h:List Ob) (id:Nat) (x:Ob) (j:Nat),ah (bB h id x) j=if id=j then x else ah h j
 | [],0,x,j=>by cases j <;>simp[bB,ah]
 | [],n+1,x,j=>by
  cases j with
  |zero=>simp[bB,ah]
  |succ j=>simp only[bB,ah,cj [] n x j];by_cases h:n=j <;>simp[h]
 |o::r,0,x,j=>by cases j <;>simp[bB,ah]
 |o::r,n+1,x,j=>by
  cases j with
  |zero=>simp[bB,ah]
  |succ j=>simp only[bB,ah,cj r n x j];by_cases h:n=j <;>simp[h]
theorem bL:∀ (h:List Ob) (id:Nat) (x:Ob),(bB h id x).length=if id<h.length then h.length else id+1
 | [],0,x=>by simp[bB]
 | [],n+1,x=>by simp[bB,bL [] n x]
 |o::r,0,x=>by simp[bB]
 |o::r,n+1,x=>by simp only[bB,List.length_cons,bL r n x];by_cases h:n<r.length <;>simp[h] <;>omega
theorem jK {h:List Ob}{id:Nat}(hi:h.length≤id):ah h id=.dead:=by rw[lX,List.getElem?_eq_none hi];rfl
theorem kZ (h l:List Ob)(id:Nat):ah (h++l) id=if id<h.length then ah h id else ah l (id - h.length):=by
 rw[lX,lX,lX,List.getElem?_append];split <;>rfl
theorem wU {F:Nat→Prop}{own:Own}{w:World}{s:SV}{v:Value}{l:List SV}(h:Rel F own w s v)(hf:kc s=some l):
  v.cells.size=l.length∧∀ (j:Nat) (x:SV),l[j]? =some x→Rel F own w x (v.cells.getD j undef):=by
 have one:∀ {s:SV} {v:Value},Rel F own w s v→v.cells= #[v]→kc s=some [s]→kc s=some l→v.cells.size=l.length∧∀ (j:Nat) (x:SV),l[j]? =some x→Rel F own w x (v.cells.getD j undef):=by
  intro s v h hc h1 h2;rw[h1]at h2;simp only[Option.some.injEq]at h2;subst h2;rw[hc];refine⟨rfl,fun j x hj=>?_⟩;cases j with
  |zero=>simp at hj;subst hj;simpa using h
  |succ j=>simp at hj
 cases h with
 |any=>simp[kc]at hf
 |v=>
  cases v <;>first|exact one (.v _) rfl rfl hf|simp[kc]at hf
  subst hf;rename_i cs;refine⟨by simp[Value.cells],fun j y hj=>?_⟩;simp at hj;obtain⟨z,hz,rfl⟩:=hj;simp[Value.cells,hz];exact .v _
 |ptr h1 h2=>exact one (.ptr h1 h2) rfl rfl hf
 |os h1 h2=>exact one (.os h1 h2) (wT h2) rfl hf
 |e0=>exact one .e0 rfl rfl hf
 |rp h1 h2 h3=>exact one (.rp h1 h2 h3) rfl rfl hf
 |gr h1 h2 h3=>exact one (.gr h1 h2 h3) (wT h3) rfl hf
 |gp h1 h2 h3=>exact one (.gp h1 h2 h3) rfl rfl hf
 |vw h1 h2 h3=>exact one (.vw h1 h2 h3) rfl rfl hf
 |ep c h1 h2=>exact one (.ep c h1 h2) rfl rfl hf
 |rs c h0 h0' h1 h2=>exact one (.rs c h0 h0' h1 h2) rfl rfl hf
 |rs0=>exact one .rs0 rfl rfl hf
 |ls c h0 h1 h2=>exact one (.ls c h0 h1 h2) rfl rfl hf
 |rm ck cv es clock h0 h1 h2 h3 h4 h5=>exact one (.rm ck cv es clock h0 h1 h2 h3 h4 h5) rfl rfl hf
 |rm0=>exact one .rm0 rfl rfl hf
 |agg h0 h1=>simp[kc]at hf;subst hf;exact⟨h0,h1⟩
 |tup=>simp[kc]at hf
 |fn h0 h0' h1 h2=>exact one (.fn h0 h0' h1 h2) rfl rfl hf
theorem nbl {n m:Nat}(h:Nat.ble n m=true):n≤m:=Nat.le_of_ble_eq_true h
theorem pN {k:Tag}{x:k.T}{j:Nat}{s:SV}(h:(cellsOf k x)[j]? =some s):(∃ y,s=.v y∧kW y=true)∨(∃ (k':Tag) (l:List k'.T),s=.rs k' l∧rank k'<rank k)∨(∃ (k' k2:Tag) (l:List (k'.T×k2.T)),s=.rm k' k2 l∧rank k'<rank k∧rank k2<rank k)∨∃ f,s=.fn f [] []∧rank k≠0:=by
 have hm:=List.mem_of_getElem? h;cases k <;>simp only[cellsOf,List.mem_cons,List.not_mem_nil,or_false]at hm <;>
  (repeat' (rcases hm with hm|hm)) <;>first|exact .inl ⟨_,rfl,rfl⟩ |exact .inr (.inl ⟨_,_,rfl,by decide⟩) |exact .inr (.inr (.inl ⟨_,_,_,rfl,by decide,by decide⟩)) |(cases x <;>first|exact .inl ⟨_,rfl,rfl⟩ |exact .inr (.inr (.inr ⟨_,rfl,by decide⟩)))
section
variable {P:Program}{F:Nat→Prop}{own:Own}{w:World}
theorem bU {x v:Value}(h:Rel F own w (.v x) v):v=x:=by cases h;rfl
theorem AA {k:Tag}{x:k.T}{j:Nat}{s:SV}{u:Value}(h:(cellsOf k x)[j]? =some s)(hr:Rel F own w s u):kW u=true:=by
 rcases pN h with⟨y,rfl,hy⟩ | ⟨k',l,rfl,_⟩ | ⟨k',k2,l,rfl,_⟩ | ⟨f,rfl,_⟩
 ·rw[bU hr];exact hy
 ·cases hr <;>rfl
 ·cases hr <;>rfl
 ·cases hr <;>rfl
def RowAt (F:Nat→Prop)(own:Own)(w:World)(k:Tag)(l:List k.T)(o:Nat)(cs:Array Value):Prop:=
 ∀ (i:Nat) (x:k.T),l[i]? =some x→∀ (j:Nat) (s:SV),(cellsOf k x)[j]? =some s→∃ u,cs[o+i*aa k+j]? =some u∧Rel F own w s u
def RowRel (F:Nat→Prop)(own:Own)(w:World)(k:Tag)(l:List k.T)(v:Value)(bs:List Nat):Prop:=
 (∃ a,v=.slice a 0 0∧l=[]∧bs=[])∨
 ∃ b o cap cs ty,v=.slice (some ⟨b,o,none⟩) l.length cap∧bs=[b]∧w.heap[b]? =some (.cells cs ty (0,0))∧o+cap*aa k≤cs.size∧l.length≤cap∧l.length≤a7∧RowAt F own w k l o cs
def MpAt (F:Nat→Prop)(own:Own)(w:World)(kk vk:Tag)(l:List (kk.T×vk.T))(es:Array MapEntry):Prop:=
 es.size=l.length∧∀ (i:Nat) (x:kk.T×vk.T),l[i]? =some x→∃ e,es[i]? =some e∧True∧Rel F own w (svT kk x.1) e.key∧Rel F own w (svT vk x.2) e.val
def cO (kk vk:Tag)(l:List (kk.T×vk.T)):Option (Nat×Option kk.T)→List (kk.T×vk.T)
 |some (_,some x) =>if(e_ l x).isSome then l else l++[(x,cF vk)]
 |_=>l
theorem gm {kk vk:Tag}{l:List (kk.T×vk.T)}{p:Option (Nat×Option kk.T)}(h:noE p=true):cO kk vk l p=l:=by
 cases p with
 |none=>rfl
 |some q=>obtain⟨i,q⟩:=q;cases q with
  |none=>rfl
  |some x=>cases h
def eV (es:Array MapEntry):List Nat:=es.toList.map (·.born)
def Stamped (es:Array MapEntry)(clock:Nat):Prop:=(eV es).Nodup∧∀ n∈eV es,n<clock
def stV (ss:List Nat)(clock:Nat):List Value:=.int .i64 clock::ss.map fun n=>.int .i64 (n:Nat)
def PendOk (own:Own)(kk vk:Tag)(l:List (kk.T×vk.T))(es:Array MapEntry)(clock:Nat):Option (Nat×Option kk.T)→Prop
 |none=>True
 |some (nx,some x) =>∃ hd2 e,own nx=some hd2∧es[lO kk vk l x]? =some e∧hd2.v=.int .i64 e.born
 |some (nx,none) =>∃ hd2,own nx=some hd2∧hd2.vs=stV (eV es) clock
def GridIn (F:Nat→Prop)(own:Own)(w:World)(k:Tag):List (List k.T)→List Value→List Nat→Prop
 | [],[],bs=>bs=[]
 |l::ls,v::vs,bs=>∃ b1 b2,bs=b1++b2∧kW v=true∧RowRel F own w k l v b1∧GridIn F own w k ls vs b2
 |_,_,_=>False
def ObRel (F:Nat→Prop)(own:Own)(w:World)(hd:Hd):Ob→Prop
 | .cells l=>∃ b cs ty,hd.p=some b∧hd.bs=[b]∧w.heap[b]? =some (.cells cs ty (0,0))∧cs.size=l.length∧∀ (j:Nat) (s:SV),l[j]? =some s→Rel F own w s (cs.getD j undef)
 | .dead=>True
 | .row k l=>RowRel F own w k l hd.v hd.bs
 | .mp kk vk l pend=>∃ b es clock,hd.v=.map (some b)∧hd.bs=[b]∧w.heap[b]? =some (.map es clock)∧MpAt F own w kk vk (cO kk vk l pend) es∧Stamped es clock∧PendOk own kk vk l es clock pend
 | .grid k l=>(hd.v=.slice none 0 0∧l=[]∧hd.vs=[]∧hd.bs=[])∨
   ∃ b o cap cs ty bs,hd.v=.slice (some ⟨b,o,none⟩) l.length cap∧hd.bs=b::bs∧hd.bs.Nodup∧w.heap[b]? =some (.cells cs ty (0,0))∧o+cap≤cs.size∧l.length≤cap∧l.length≤a7∧
    (∀ (i:Nat) (v:Value),hd.vs[i]? =some v→cs[o+i]? =some v)∧GridIn F own w k l hd.vs bs
 | .ab r=>hd.v=r.yv∧r.R (fun b=>bV F own b∧b ∉ hd.bs) hd.bs w
 | .raw o=>∃ b,hd.p=some b∧hd.bs=[b]∧w.heap[b]? =some o
 | .mi mid n left cur=>∃ b,hd.p=some b∧hd.bs=[b]∧∀ i,mid=some i→∃ (hdm:Hd) (bm:Nat) (seen:Array Nat) (c:Nat) (ss:List Nat),own i=some hdm∧hdm.v=.map (some bm)∧w.heap[b]? =some (.mapIter (some bm) c seen c)∧hd.vs=stV ss c∧ss.length=n∧left.Nodup∧(∀ k,k∈left↔∃ s,ss[k]? =some s∧¬s∈seen.toList)∧∀ j,cur=some j→∃ s,ss[j]? =some s∧seen.back? =some s
 | .fwd n=>∀ i,n=some i→∃ hd2,own i=some hd2∧hd2.v=hd.v∧kW hd.v=true
 | .fz k l=>Rel F own w (.rs k l) hd.v
variable {F':Nat→Prop}{own':Own}{w':World}
theorem RowAt.carry (g:Carries F own w F' own' w'){k:Tag}{l:List k.T}{o:Nat}{cs:Array Value}(h:RowAt F own w k l o cs):RowAt F' own' w' k l o cs:=
 fun i x hi j s hj=>by obtain⟨u,h1,h2⟩:=h i x hi j s hj;exact⟨u,h1,h2.carry g⟩
theorem RowRel.carry (g:Carries F own w F' own' w'){k:Tag}{l:List k.T}{v:Value}{bs:List Nat}(hb:∀ b∈bs,w'.heap[b]? =w.heap[b]?)(h:RowRel F own w k l v bs):RowRel F' own' w' k l v bs:=by
 rcases h with h| ⟨b,o,cap,cs,ty,h1,h2,h3,h4,h5,h6,h7⟩
 ·exact .inl h
 ·exact .inr ⟨b,o,cap,cs,ty,h1,h2,by rw[hb b (by simp[h2])];exact h3,h4,h5,h6,h7.carry g⟩
theorem GridIn.carry (g:Carries F own w F' own' w'){k:Tag}:∀ {l:List (List k.T)} {vs:List Value} {bs:List Nat},(∀ b∈bs,w'.heap[b]? =w.heap[b]?)→GridIn F own w k l vs bs→GridIn F' own' w' k l vs bs
 | [],[],bs,_,h=>h
 |l::ls,v::vs,bs,hb,⟨b1,b2,h1,h0,h2,h3⟩ =>⟨b1,b2,h1,h0,h2.carry g fun b hbb=>hb b (by simp[h1,hbb]),GridIn.carry g (fun b hbb=>hb b (by simp[h1,hbb])) h3⟩
 | [],_::_,_,_,h=>h.elim
 |_::_,[],_,_,h=>h.elim
theorem MpAt.carry (g:Carries F own w F' own' w'){kk vk:Tag}{l:List (kk.T×vk.T)}{es:Array MapEntry}(h:MpAt F own w kk vk l es):MpAt F' own' w' kk vk l es:=
 ⟨h.1,fun i x hi=>by obtain⟨e,h1,h2,h3,h4⟩:=h.2 i x hi;exact⟨e,h1,h2,h3.carry g,h4.carry g⟩⟩
theorem PendOk.ids (g:∀ (id:Nat) (hd:Hd),own id=some hd→∃ hd',own' id=some hd'∧hd.like hd'){kk vk:Tag}{l:List (kk.T×vk.T)}{es:Array MapEntry}{clock:Nat}{p:Option (Nat×Option kk.T)}(h:PendOk own kk vk l es clock p):PendOk own' kk vk l es clock p:=by
 cases p with
 |none=>trivial
 |some q=>
  obtain⟨i,q⟩:=q;cases q with
  |some x=>
   obtain⟨hd2,e,h1,h2,h3⟩:=h;obtain⟨hd',e1,e2⟩:=g _ _ h1;exact⟨hd',e,e1,h2,e2.2.1.trans h3⟩
  |none=>
   obtain⟨hd2,h1,h2⟩:=h;obtain⟨hd',e1,e2⟩:=g _ _ h1;exact⟨hd',e1,e2.2.2.trans h2⟩
theorem ObRel.carry (g:Carries F own w F' own' w')(hsz:w.heap.size≤w'.heap.size){hd:Hd}(hb:∀ b∈hd.bs,w'.heap[b]? =w.heap[b]?){o:Ob}(h:ObRel F own w hd o):ObRel F' own' w' hd o:=by
 cases o with
 |cells l=>obtain⟨b,cs,ty,h1,h2,h3,h4,h5⟩:=h;exact⟨b,cs,ty,h1,h2,by rw[hb b (by simp[h2])];exact h3,h4,fun j s hj=>(h5 j s hj).carry g⟩
 |dead=>trivial
 |row k l=>exact RowRel.carry g hb h
 |mp kk vk l pend=>obtain⟨b,es,clock,h1,h2,h3,h4,h5,h6⟩:=h;exact⟨b,es,clock,h1,h2,by rw[hb b (by simp[h2])];exact h3,h4.carry g,h5,h6.ids g.ids⟩
 |grid k l=>
  rcases h with h| ⟨b,o,cap,cs,ty,bs,h1,h2,h3,h4,h5,h6,h7,h8,h9⟩
  ·exact .inl h
  ·exact .inr ⟨b,o,cap,cs,ty,bs,h1,h2,h3,by rw[hb b (by simp[h2])];exact h4,h5,h6,h7,h8,h9.carry g fun b' hb'=>hb b' (by simp[h2,hb'])⟩
 |ab r=>
  refine⟨h.1,r.loc _ _ _ w w' h.2 hsz (fun b hbl hn=>?_) (fun b hbl hn=>⟨?_,hn.2⟩)⟩
  ·by_cases hm:b∈hd.bs
   ·exact hb b hm
   ·exact(g.keep b hbl fun ho=>hn ⟨ho,hm⟩).2
  ·exact Classical.byContradiction fun ho=>(g.keep b hbl ho).1 hn.1
 |raw o=>obtain⟨b,h1,h2,h3⟩:=h;exact⟨b,h1,h2,by rw[hb b (by simp[h2])];exact h3⟩
 |mi mid n left cur=>
  obtain⟨b,h1,h2,h3⟩:=h;refine⟨b,h1,h2,fun i hi=>?_⟩;obtain⟨hdm,bm,seen,c,ss,k1,k2,k3,k4⟩:=h3 i hi;obtain⟨hd',e1,e2⟩:=g.ids _ _ k1;exact⟨hd',bm,seen,c,ss,e1,e2.2.1.trans k2,by rw[hb b (by simp[h2])];exact k3,k4⟩
 |fwd n=>
  intro i hi;obtain⟨hd2,k1,k2,k3⟩:=h i hi;obtain⟨hd',e1,e2⟩:=g.ids _ _ k1;exact⟨hd',e1,e2.2.1.trans k2,k3⟩
 |fz k l=>exact Rel.carry g h
structure Hp (F:Nat→Prop)(own:Own)(w:World)(h:List Ob):Prop where
 dom:∀ (id:Nat) (hd:Hd),own id=some hd→id<h.length
 foreign:∀ b,F b→b<w.heap.size
 apart:∀ (id:Nat) (hd:Hd) (b:Nat),own id=some hd→b∈hd.bs→¬F b
 inj:∀ (i j:Nat) (hi hj:Hd) (b:Nat),own i=some hi→own j=some hj→b∈hi.bs→b∈hj.bs→i=j
 lt:∀ (id:Nat) (hd:Hd) (b:Nat),own id=some hd→b∈hd.bs→b<w.heap.size
 obs:∀ (id:Nat),co (ah h id)=false→∃ hd,own id=some hd∧ObRel F own w hd (ah h id)
theorem Hp.at {h:List Ob}(hp:Hp F own w h){id:Nat}{o:Ob}(ho:ah h id=o)(hd:co o=false):∃ hd,own id=some hd∧ObRel F own w hd o:=by
 subst ho;exact hp.obs id hd
theorem Hp.upd {h h':List Ob}(hp:Hp F own w h)(g:Goes F own w own' w')(U:Nat→Prop)(hlen:h.length≤h'.length)
  (same:∀ id,¬U id→own' id=own id∧ah h' id=ah h id∧∀ hd b,own id=some hd→b∈hd.bs→w'.heap[b]? =w.heap[b]?)
  (new:∀ id hd,U id→own' id=some hd→id<h'.length∧∀ b∈hd.bs,b<w'.heap.size∧¬F b∧∀ j hj,j≠id→own' j=some hj→b ∉ hj.bs)
  (obs:∀ id,U id→co (ah h' id)=false→∃ hd,own' id=some hd∧ObRel F own' w' hd (ah h' id)):Hp F own' w' h':=by
 refine⟨fun id hd h1=>?_,fun b hb=>Nat.lt_of_lt_of_le (hp.foreign b hb) g.size,fun id hd b h1 h2=>?_,fun i j hi hj b h1 h2 h3 h4=>?_,fun id hd b h1 h2=>?_,fun id hd=>?_⟩
 ·by_cases hu:U id
  ·exact(new id hd hu h1).1
  ·rw[(same id hu).1]at h1;exact Nat.lt_of_lt_of_le (hp.dom id hd h1) hlen
 ·by_cases hu:U id
  ·exact((new id hd hu h1).2 b h2).2.1
  ·rw[(same id hu).1]at h1;exact hp.apart id hd b h1 h2
 ·by_cases hui:U i
  ·exact Classical.byContradiction fun hne=>((new i hi hui h1).2 b h3).2.2 j hj (fun e=>hne e.symm) h2 h4
  ·by_cases huj:U j
   ·exact Classical.byContradiction fun hne=>((new j hj huj h2).2 b h4).2.2 i hi (fun e=>hne e) h1 h3
   ·rw[(same i hui).1]at h1;rw[(same j huj).1]at h2;exact hp.inj i j hi hj b h1 h2 h3 h4
 ·by_cases hu:U id
  ·exact((new id hd hu h1).2 b h2).1
  ·rw[(same id hu).1]at h1;exact Nat.lt_of_lt_of_le (hp.lt id hd b h1 h2) g.size
 ·by_cases hu:U id
  ·exact obs id hu hd
  ·obtain⟨e1,e2,e3⟩:=same id hu;rw[e2]at hd ⊢;obtain⟨hdd,q1,q2⟩:=hp.obs id hd;exact⟨hdd,by rw[e1];exact q1,q2.carry g.carries g.size fun b hb=>e3 hdd b q1 hb⟩
theorem Hp.goes {h:List Ob}(hp:Hp F own w h)(g:Goes F own w own w')(hown:∀ (id:Nat) (hd:Hd) (b:Nat),own id=some hd→b∈hd.bs→w'.heap[b]? =w.heap[b]?):Hp F own w' h:=
 hp.upd g (fun _=>False) (Nat.le_refl _) (fun id _=>⟨rfl,rfl,fun hd b h1 h2=>hown id hd b h1 h2⟩) (fun _ _ hu=>hu.elim) (fun _ hu=>hu.elim)
theorem Hp.below {h:List Ob}(hp:Hp F own w h)(hb:Below w.heap.size w w'):Hp F own w' h:=
 hp.goes (Goes.below F own hb) fun id hd b h1 h2=>hb.block b (hp.lt id hd b h1 h2)
structure NxOk (own:Own)(h:List Ob)(nx:Nat):Prop where
 none:own nx=none
 dead:ah h nx=.dead
theorem Hp.nx {h:List Ob}(hp:Hp F own w h):NxOk own h h.length:=by
 refine⟨?_,jK (Nat.le_refl _)⟩;cases ho:own h.length with
 |none=>rfl
 |some hd=>exact absurd (hp.dom _ _ ho) (Nat.lt_irrefl _)
def Own.set (own:Own)(id:Nat)(hd:Hd):Own:=fun j=>if j=id then some hd else own j
theorem Own.set_same (own:Own)(id:Nat)(hd:Hd):own.set id hd id=some hd:=by simp[Own.set]
theorem Own.set_other (own:Own){id j:Nat}(hd:Hd)(h:j≠id):own.set id hd j=own j:=by simp[Own.set,h]
structure Step (F:Nat→Prop)(own:Own)(w:World)(h':List Ob)(own':Own)(w':World):Prop where
 hp:Hp F own' w' h'
 fr:Fr { w:=w,own:=own} own' w'
 fresh:∀ id,own id=none→co (ah h' id)=true→own' id=none
theorem nU {h:List Ob}(hp:Hp F own w h){nx:Nat}(hn:NxOk own h nx){w1:World}(hw1:w1.heap=w.heap∧w1.os=w.os∧w1.tape=w.tape∧w1.output=w.output)(o:Obj)(ob:Ob)(hd:Hd)(hbs:hd.bs=[w.heap.size])
  (hob:∀ own':Own,Goes F own w own' (w1.alloc o)→ObRel F own' (w1.alloc o) hd ob) (hnd:co ob=false:=by rfl):Step F own w (bB h nx ob) (own.set nx hd) (w1.alloc o):=by
 obtain⟨q1,q2,q3,q4⟩:=hw1;have hheap:(w1.alloc o).heap=w.heap.push o:=by show w1.heap.push o=_;rw[q1]
 have hold:∀ b,b<w.heap.size→(w1.alloc o).heap[b]? =w.heap[b]?:=fun b hb=>by rw[hheap,Array.getElem?_push_lt hb];simp[hb]
 have hsz:(w1.alloc o).heap.size=w.heap.size+1:=by rw[hheap];simp
 have ids:∀ (id:Nat) (hdd:Hd),own id=some hdd→∃ hd',own.set nx hd id=some hd'∧hdd.like hd':=fun id hdd h1=>by
  have hne:id≠nx:=fun e=>by rw[e,hn.none]at h1;cases h1
  exact⟨hdd,by rw[Own.set_other _ _ hne];exact h1,.refl _⟩
 have fr:Fr { w:=w,own:=own} (own.set nx hd) (w1.alloc o):=Fr.of_step ids (fun id hdd b h1 h2=>by
   by_cases hid:id=nx
   ·subst hid;rw[Own.set_same]at h1;cases h1;rw[hbs]at h2;simp at h2;exact .inr (by omega)
   ·rw[Own.set_other _ _ hid]at h1;exact .inl ⟨id,hdd,h1,h2⟩) (fun b hb _=>hold b hb) (by omega) q2 q3 q4
 have g:Goes F own w (own.set nx hd) (w1.alloc o):=fr.goes;refine⟨hp.upd g (· =nx) (by rw[bL];split <;>omega) (fun id hid=>⟨Own.set_other _ _ hid,by rw[cj,if_neg (fun e=>hid e.symm)],fun hdd b h1 h2=>hold b (hp.lt id hdd b h1 h2)⟩) (fun id hdd hid h1=>?_) (fun id hid _=>?_),fr,fun id h1 h2=>?_⟩
 rotate_left 2
 ·by_cases e:id=nx
  ·subst e;rw[cj,if_pos rfl,hnd]at h2;cases h2
  ·rw[Own.set_other _ _ e];exact h1
 ·subst hid;rw[Own.set_same]at h1;cases h1;refine⟨by rw[bL];split <;>omega,fun b hb=>?_⟩;rw[hbs]at hb;simp at hb;subst hb;refine⟨by omega,fun hf=>Nat.lt_irrefl _ (hp.foreign _ hf),fun j hj hne h2 h3=>?_⟩;rw[Own.set_other _ _ hne]at h2;exact Nat.lt_irrefl _ (hp.lt j hj _ h2 h3)
 ·subst hid;refine⟨hd,Own.set_same _ _ _,?_⟩;rw[cj,if_pos rfl];exact hob _ g
theorem kl {h:List Ob}(hp:Hp F own w h){id:Nat}{hd:Hd}(h1:own id=some hd){b:Nat}(hb:b∈hd.bs)(hsz:w'.heap.size=w.heap.size)(hold:∀ k,k≠b→w'.heap[k]? =w.heap[k]?)(q2:w'.os=w.os)(q3:w'.tape=w.tape)(q4:w'.output=w.output)(ob:Ob)
  (hob:Goes F own w own w'→ObRel F own w' hd ob):Step F own w (bB h id ob) own w':=by
 have hlt:=hp.dom id hd h1;have fr:Fr { w:=w,own:=own} own w':=Fr.of_step (fun _ hdd h=>⟨hdd,h,.refl _⟩) (fun id hdd b h1 h2=>.inl ⟨id,hdd,h1,h2⟩) (fun k _ hn=>hold k fun e=>hn ⟨id,hd,h1,e▸hb⟩) (by omega) q2 q3 q4;refine⟨hp.upd fr.goes (· =id) (by rw[bL,if_pos hlt];omega) (fun j hj=>⟨rfl,by rw[cj,if_neg (fun e=>hj e.symm)],fun hdd b' h2 h3=>hold b' fun e=>hj (hp.inj j id hdd hd b' h2 h1 h3 (e▸hb))⟩) (fun j hdd hj h2=>?_) (fun j hj _=>?_),fr,fun _ h1 _=>h1⟩
 ·subst hj;rw[h1]at h2;cases h2;exact⟨by rw[bL,if_pos hlt];exact hlt,fun b' hb'=>⟨by rw[hsz];exact hp.lt j hd b' h1 hb',hp.apart j hd b' h1 hb',fun i hi hne h3 h4=>hne (hp.inj i j hi hd b' h3 h1 h4 hb')⟩⟩
 ·subst hj;refine⟨hd,h1,?_⟩;rw[cj,if_pos rfl];exact hob fr.goes
theorem zk {h:List Ob}(hp:Hp F own w h){id:Nat}{hd:Hd}(h1:own id=some hd)(ob:Ob)(hob:ObRel F own w hd ob):Step F own w (bB h id ob) own w:=by
 have hlt:=hp.dom id hd h1;have fr:Fr { w:=w,own:=own} own w:=Fr.of_step (fun _ hdd h=>⟨hdd,h,.refl _⟩) (fun id hdd b h1 h2=>.inl ⟨id,hdd,h1,h2⟩) (fun _ _ _=>rfl) (Nat.le_refl _) rfl rfl rfl;refine⟨hp.upd fr.goes (· =id) (by rw[bL,if_pos hlt];omega) (fun j hj=>⟨rfl,by rw[cj,if_neg (fun e=>hj e.symm)],fun _ _ _ _=>rfl⟩) (fun j hdd hj h2=>?_) (fun j hj _=>?_),fr,fun _ h1 _=>h1⟩
 ·subst hj;rw[h1]at h2;cases h2;exact⟨by rw[bL,if_pos hlt];exact hlt,fun b' hb'=>⟨hp.lt j hd b' h1 hb',hp.apart j hd b' h1 hb',fun i hi hne h3 h4=>hne (hp.inj i j hi hd b' h3 h1 h4 hb')⟩⟩
 ·subst hj;exact⟨hd,h1,by rw[cj,if_pos rfl];exact hob⟩
theorem Fk {ss ss':List Nat}{c c':Nat}(h:stV ss c=stV ss' c'):c=c'∧ss=ss':=by
 unfold stV at h;simp only[List.cons.injEq,Value.int.injEq,true_and]at h;refine⟨by omega,?_⟩;have h2:=h.2;clear h;induction ss generalizing ss' with
 |nil=>cases ss' with
  |nil=>rfl
  |cons a r=>cases h2
 |cons a r ih=>cases ss' with
  |nil=>cases h2
  |cons a' r'=>
   simp only[List.map_cons,List.cons.injEq,Value.int.injEq,true_and]at h2;rw[ih h2.2,show a=a' by omega]
theorem bv {t:TypeId}{ti:TI}(h:cq P t=some ti):∃ i d z,P.info? t=some i∧P.underlying t=some d∧i.zero=some z∧pC P d=true∧ti=cN P t i d:=by
 unfold cq at h;split at h
 ·rename_i i d hi hd;cases hz:i.zero with
  |none=>simp[hz]at h
  |some z=>
   simp only[hz,Option.isSome_some,Bool.true_and]at h;cases hq:pC P d with
   |false=>simp[hq]at h
   |true=>simp[hq]at h;exact⟨i,d,z,hi,hd,hz,hq,h.symm⟩
 ·cases h
theorem c9 {t:TypeId}{i:TypeInfo}(h:P.info? t=some i):(sizeOf t).run P w=.ok i.size w:=by
 simp[sizeOf,typeInfo,h]
theorem qQ {t:TypeId}{d:TypeDesc}(h:P.underlying t=some d):(isAgg t).run P w=.ok (gl P t) w:=by
 simp only[isAgg,Sem.run_bind,run_underlying h,Result.andThen_ok,gl,h];cases d <;>simp
theorem jg (b o n:Nat):Addr.add ⟨b,o,none⟩ n=⟨b,o+n,none⟩:=by unfold Addr.add;split <;>simp_all
theorem da {b:Nat}{cs:Array Value}{ty:TypeId}{fr:Nat×Nat}(h:w.heap[b]? =some (.cells cs ty fr))(j:Nat):w.cell? ⟨b,j,none⟩=cs[j]?:=by
 simp[World.cell?,h]
theorem wV {b:Nat}{cs:Array Value}{ty:TypeId}(h:w.heap[b]? =some (.cells cs ty (0,0)))(j:Nat):w.frozen? ⟨b,j,none⟩=false:=by
 simp[World.frozen?,h]
theorem th {t:TypeId}{ti:TI}(ht:cq P t=some ti){l:List SV}{b o off:Nat}(c:Nat→Value)
  (hc:∀ (j:Nat) (s:SV),l[j]? =some s→w.cell? ⟨b,o+j,none⟩=some (c j)∧Rel F own w s (c j)) {s':SV} (hp:lv ti.agg ti.size l off=some s'):
  ∃ u,(loadVar t ⟨b,o+off,none⟩).run P w=.ok u w∧Rel F own w s' u:=by
 obtain⟨i,d,z,hi,hd,hz,hq,rfl⟩:=bv ht;simp only[cN]at hp;simp only[loadVar,Sem.run_bind,qQ hd,Result.andThen_ok];cases ha:gl P t with
 |true=>
  simp only[lv,ha,cond_true,mu,Az,wd]at hp;cases hb:Nat.ble (off+i.size) l.length with
  |false=>simp[hb]at hp
  |true=>
   simp only[hb,cond_true,Option.some.injEq]at hp;subst hp;have hle:off+i.size≤l.length:=nbl hb;simp only[if_true,Sem.run_bind,c9 hi,Result.andThen_ok];rw[run_loadCells w ⟨b,o+off,none⟩ i.size (fun j=>c (off+j)) (fun j hj=>by
    have:=(hc (off+j) _ (List.getElem?_eq_getElem (by omega))).1;rw[jg,show o+off+j=o+(off+j) by omega];exact this)]
   refine⟨_,rfl,.agg (by simp;omega) fun j s hj=>?_⟩;have hj':j<i.size:=by
    rcases Nat.lt_or_ge j i.size with h|h
    ·exact h
    ·rw[List.getElem?_take,if_neg (by omega)]at hj;cases hj
   rw[List.getElem?_take,if_pos hj',List.getElem?_drop]at hj;simp only[Array.getD_eq_getD_getElem?];simp[hj'];exact(hc (off+j) s hj).2
 |false=>
  simp only[lv,ha,cond_false,dZ]at hp;obtain⟨h1,h2⟩:=hc _ _ hp;refine⟨c off,?_,h2⟩;simp[h1]
theorem oK {o:Option SV}{s:SV}(h:nS o=.val s):o=some s:=by
 cases o with
 |none=>simp[nS]at h
 |some x=>simp[nS]at h;rw[h]
theorem k9 {α:Type}{l:List α}{i:Nat}{d:α}(h:i<l.length):l[i]? =some (l.getD i d):=by simp[List.getD,h]
theorem RowAt.get {k:Tag}{l:List k.T}{o:Nat}{cs:Array Value}(h:RowAt F own w k l o cs){i:Nat}(hi:i<l.length){j:Nat}{s:SV}(hj:(cellsOf k (l.getD i (cF k)))[j]? =some s):
  cs[o+i*aa k+j]? =some (cs.getD (o+i*aa k+j) undef)∧Rel F own w s (cs.getD (o+i*aa k+j) undef):=by
 obtain⟨u,h1,h2⟩:=h i _ (k9 hi) j s hj;have:cs.getD (o+i*aa k+j) undef=u:=by simp[Array.getD_eq_getD_getElem?,h1]
 rw[this];exact⟨h1,h2⟩
theorem GridIn.get {k:Tag}:∀ {l:List (List k.T)} {vs:List Value} {bs:List Nat} {i:Nat} {v:Value},GridIn F own w k l vs bs→vs[i]? =some v→∃ b1,kW v=true∧i<l.length∧RowRel F own w k (l.getD i []) v b1∧∀ b∈b1,b∈bs
 | [],[],bs,i,v,_,h=>by simp at h
 |l::ls,u::vs,bs,0,v,⟨b1,b2,h1,h0,h2,h3⟩,h=>by simp at h;subst h;exact⟨b1,h0,by simp,h2,fun b hb=>by simp[h1,hb]⟩
 |l::ls,u::vs,bs,i+1,v,⟨b1,b2,h1,h0,h2,h3⟩,h=>by
  obtain⟨b3,q1,q2,q3,q4⟩:=GridIn.get h3 (by simpa using h);exact⟨b3,q1,by simp;omega,by simpa using q3,fun b hb=>by simp[h1,q4 b hb]⟩
 | [],_::_,_,_,_,h,_=>h.elim
 |_::_,[],_,_,_,h,_=>h.elim
theorem GridIn.len {k:Tag}:∀ {l:List (List k.T)} {vs:List Value} {bs:List Nat},GridIn F own w k l vs bs→vs.length=l.length
 | [],[],_,_=>rfl
 |l::ls,u::vs,bs,⟨b1,b2,h1,h0,h2,h3⟩ =>by simp[GridIn.len h3]
 | [],_::_,_,h=>h.elim
 |_::_,[],_,h=>h.elim
theorem BX {h:List Ob}(hp:Hp F own w h){t:TypeId}{ti:TI}(ht:cq P t=some ti){s s':SV}{v:Value}(hr:Rel F own w s v)(hl:kV ti h s=.val s'):
  ∃ u,(Instr.loadAt t v).run P w=.ok u w∧Rel F own w s' u:=by
 cases hr with
 |ptr h1 h2=>
  rename_i id off b hd;simp only[kV]at hl;cases ho:ah h id with
  |cells l=>
   rw[ho]at hl;have hpo:=oK hl;obtain⟨hd',e0,b',cs,ty,e1,e2,e3,e4,e5⟩:=hp.at ho rfl;rw[h1]at e0;cases e0;rw[h2]at e1;cases e1;have:=th (P:=P) (w:=w) (F:=F) (own:=own) (b:=b) (o:=0) (off:=off) ht (fun j=>cs.getD j undef) (fun j s hj=>by
    refine⟨?_,e5 j s hj⟩;have hjl:j<cs.size:=by rw[e4];exact(List.getElem?_eq_some_iff.1 hj).1
    rw[Nat.zero_add,da e3];simp[hjl]) hpo
   simpa[Instr.loadAt,Instr.sureAddr]using this
  |_=>rw[ho]at hl;simp[sX]at hl
 |ep c h1 h2=>
  rename_i cells off b o;simp only[kV]at hl;have hpo:=oK hl;have:=th (P:=P) (w:=w) (F:=F) (own:=own) (b:=b) (o:=o) (off:=off) ht c (fun j s hj=>⟨(h1 j s hj).2,h2 j s hj⟩) hpo;simpa[Instr.loadAt,Instr.sureAddr]using this
 |rp h1 h2 h3=>
  rename_i szt id off n cap b o i hd;simp only[kV]at hl;cases ho:ah h id with
  |row k l=>
   rw[ho]at hl;simp only[wF]at hl;cases hb:Nat.beq szt (aa k)with
   |false=>rw[hb]at hl;cases hl
   |true=>
    rw[hb]at hl;have hsz:=Nat.eq_of_beq_eq_true hb;have hpo:=oK hl;obtain⟨hd',e0,e⟩:=hp.at ho rfl;rw[h1]at e0;cases e0;rcases e with⟨a,e1,_⟩ | ⟨b',o',cap',cs,ty,e1,e2,e3,e4,e5,e6,e7⟩
    ·rw[h2]at e1;cases e1;omega
    ·rw[h2]at e1;simp only[Value.slice.injEq,Option.some.injEq,Addr.mk.injEq]at e1;obtain⟨⟨rfl,rfl,_⟩,rfl,rfl⟩:=e1;have:=th (P:=P) (w:=w) (F:=F) (own:=own) (b:=b) (o:=o+i.toNat*szt) (off:=off) ht (fun j=>cs.getD (o+i.toNat*aa k+j) undef) (fun j s hj=>by
      have:=e7.get h3 hj;rw[da e3,hsz];exact this) hpo
     simpa[Instr.loadAt,Instr.sureAddr]using this
  |grid k l=>
   rw[ho]at hl;simp only[wF]at hl;cases hb:Nat.beq szt 1&&Nat.beq off 0&& !ti.agg with
   |false=>rw[hb]at hl;cases hl
   |true=>
    rw[hb]at hl;simp only[Bool.and_eq_true,Bool.not_eq_true']at hb;have hs1:=Nat.eq_of_beq_eq_true hb.1.1;have hs2:=Nat.eq_of_beq_eq_true hb.1.2;subst hs1;subst hs2;simp only[cond_true,OR.val.injEq]at hl;subst hl;obtain⟨hd',e0,e⟩:=hp.at ho rfl;rw[h1]at e0;cases e0;rcases e with⟨e1,_⟩ | ⟨b',o',cap',cs,ty,bs,e1,e2,e3,e4,e5,e6,e7,e8,e9⟩
    ·rw[h2]at e1;cases e1
    ·rw[h2]at e1;simp only[Value.slice.injEq,Option.some.injEq,Addr.mk.injEq]at e1;obtain⟨⟨rfl,rfl,_⟩,rfl,rfl⟩:=e1;have hlen:=e9.len;have hv:hd.vs[i.toNat]? =some (hd.vs.getD i.toNat undef):=k9 (by rw[hlen];exact h3);obtain⟨b1,q1,q2,q3,q4⟩:=e9.get hv;refine⟨_,?_,.gr h1 hv q1⟩;obtain⟨i',d,z,hi,hdd,hz,hq,rfl⟩:=bv ht;have hcell:w.cell? ⟨b,o+i.toNat,none⟩=some (hd.vs.getD i.toNat undef):=by rw[da e4];exact e8 _ _ hv
     have hag:gl P t=false:=hb.2;simp[Instr.loadAt,Instr.sureAddr,loadVar,qQ hdd,hag,hcell]
  |_=>rw[ho]at hl;simp[wF]at hl
 |gp h1 h2 h3=>
  rename_i szt id off n cap b o i j hd;simp only[kV]at hl;cases ho:ah h id with
  |grid k l=>
   rw[ho]at hl;simp only[um]at hl;cases hb:Nat.beq szt (aa k)with
   |false=>rw[hb]at hl;cases hl
   |true=>
    rw[hb]at hl;have hsz:=Nat.eq_of_beq_eq_true hb;have hpo:=oK hl;obtain⟨hd',e0,e⟩:=hp.at ho rfl;rw[h1]at e0;cases e0;rcases e with⟨_,_,e1,_⟩ | ⟨b',o',cap',cs,ty,bs,e1,e2,e3,e4,e5,e6,e7,e8,e9⟩
    ·rw[e1]at h2;simp at h2
    ·obtain⟨b1,q1,q2,q3,q4⟩:=e9.get h2;rcases q3 with⟨a,k1,_⟩ | ⟨b2,o2,cap2,cs2,ty2,k1,k2,k3,k4,k5,k6,k7⟩
     ·cases k1;omega
     ·simp only[Value.slice.injEq,Option.some.injEq,Addr.mk.injEq]at k1;obtain⟨⟨rfl,rfl,_⟩,rfl,rfl⟩:=k1;have:=th (P:=P) (w:=w) (F:=F) (own:=own) (b:=b) (o:=o+j.toNat*szt) (off:=off) ht (fun q=>cs2.getD (o+j.toNat*aa k+q) undef) (fun q s hj=>by
       have:=k7.get h3 hj;rw[da k3,hsz];exact this) hpo
      simpa[Instr.loadAt,Instr.sureAddr]using this
  |_=>rw[ho]at hl;simp[um]at hl
 |_=>simp[kV]at hl
theorem Fl {t:TypeId}{ti:TI}(ht:cq P t=some ti){f:Nat}{x:Nat×Nat×Bool}(hf:nth ti.fields f=some x):
  ∃ fs fd,P.underlying t=some (.struct fs)∧fs[f]? =some fd∧x=(fd.offset,iT P fd.type,gl P fd.type):=by
 obtain⟨i,d,z,hi,hd,hz,hq,rfl⟩:=bv ht;simp only[cN,dZ]at hf;cases d <;>simp at hf;rename_i fs;obtain⟨fd,h1,h2⟩:=hf;exact⟨fs,fd,hd,h1,h2.symm⟩
theorem KY {s s':SV}{v:Value}{n:Nat}(hr:Rel F own w s v)(h:sY n s=.val s'):
  ∃ b o,v=.pointer (some ⟨b,o,none⟩)∧Rel F own w s' (.pointer (some ⟨b,o+n,none⟩)):=by
 cases hr with
 |ptr h1 h2=>simp only[sY,OR.val.injEq]at h;subst h;exact⟨_,_,rfl,.ptr h1 h2⟩
 |ep c h1 h2=>simp only[sY,OR.val.injEq]at h;subst h;exact⟨_,_,rfl,by rw[Nat.add_assoc];exact .ep c h1 h2⟩
 |rp h1 h2 h3=>simp only[sY,OR.val.injEq]at h;subst h;exact⟨_,_,rfl,by rw[Nat.add_assoc];exact .rp h1 h2 h3⟩
 |gp h1 h2 h3=>simp only[sY,OR.val.injEq]at h;subst h;exact⟨_,_,rfl,by rw[Nat.add_assoc];exact .gp h1 h2 h3⟩
 |_=>simp[sY]at h
theorem AB {t:TypeId}{ti:TI}(ht:cq P t=some ti){f o n:Nat}{g:Bool}(hf:nth ti.fields f=some (o,n,g))(hn:1≤n){s s':SV}{v:Value}
  (hr:Rel F own w s v) (h:sY o s=.val s'):∃ u,(Instr.fieldAt t v f).run P w=.ok u w∧Rel F own w s' u:=by
 obtain⟨fs,fd,hu,hfd,he⟩:=Fl ht hf;obtain⟨b,q,rfl,hs⟩:=KY hr h;simp only[Prod.mk.injEq]at he;obtain⟨rfl,rfl,rfl⟩:=he;refine⟨_,?_,hs⟩;have hsz:(sizeOf fd.type).run P w=.ok (iT P fd.type) w:=by
  cases hi:P.info? fd.type with
  |none=>simp[iT,hi]at hn
  |some i=>simp[c9 hi,iT,hi]
 simp only[Instr.fieldAt,Sem.run_bind,run_underlying hu,Result.andThen_ok,hfd,Instr.sureAddr,Sem.run_pure,fieldPlace,hsz];rw[if_neg (by omega)];simp[jg]
theorem GP {t:TypeId}{ti:TI}(ht:cq P t=some ti){f:Nat}{s s':SV}{v:Value}(hr:Rel F own w s v)(h:mq (nth ti.fields f) (sT s)=.val s'):
  ∃ u,(Instr.field t v f).run P w=.ok u w∧Rel F own w s' u:=by
 cases hf:nth ti.fields f with
 |none=>simp[hf,mq]at h
 |some x=>
  obtain⟨o,n,g⟩:=x;obtain⟨fs,fd,hu,hfd,he⟩:=Fl ht hf;simp only[Prod.mk.injEq]at he;obtain⟨rfl,rfl,rfl⟩:=he;obtain⟨i,d,z,hi,hd,hz,hq,rfl⟩:=bv ht;rw[hd]at hu;cases hu;have hq':(P.info? fd.type).isSome∧(P.underlying fd.type).isSome:=by
   simp only[pC,List.all_eq_true,Bool.and_eq_true]at hq;exact hq fd (by have:=Array.mem_of_getElem? hfd;simpa using this)
  obtain⟨fi,hfi⟩:=Option.isSome_iff_exists.1 hq'.1;obtain⟨fd',hfu⟩:=Option.isSome_iff_exists.1 hq'.2;have key:∀ (l:List SV) (vs:Array Value),vs.size=l.length→(∀ (j:Nat) (s:SV),l[j]? =some s→Rel F own w s (vs.getD j undef))→mq (some (fd.offset,iT P fd.type,gl P fd.type)) (some l)=.val s'→
    ∃ u,(part fd.type vs fd.offset).run P w=.ok u w∧Rel F own w s' u:=by
   intro l vs hl hrel hfs;simp only[mq]at hfs;cases hp:lv (gl P fd.type) (iT P fd.type) l fd.offset with
   |none=>simp[hp,nS]at hfs
   |some q=>
    simp only[hp,nS,OR.val.injEq]at hfs;subst hfs;simp only[iT,hfi]at hp;simp only[part,Sem.run_bind,qQ hfu,Result.andThen_ok];cases ha:gl P fd.type with
    |true=>
     simp only[lv,ha,cond_true,mu,Az,wd]at hp;cases hb:Nat.ble (fd.offset+fi.size) l.length with
     |false=>simp[hb]at hp
     |true=>
      simp only[hb,cond_true,Option.some.injEq]at hp;subst hp;have hle:=nbl hb;simp only[if_true,Sem.run_bind,c9 hfi,Result.andThen_ok,Sem.run_pure];refine⟨_,rfl,.agg (by simp;omega) fun j s hj=>?_⟩;have hj':j<fi.size:=by
       rcases Nat.lt_or_ge j fi.size with h|h
       ·exact h
       ·rw[List.getElem?_take,if_neg (by omega)]at hj;cases hj
      rw[List.getElem?_take,if_pos hj',List.getElem?_drop]at hj;have:=hrel (fd.offset+j) s hj;simp only[Array.getD_eq_getD_getElem?]at this ⊢;rw[Array.getElem?_extract_of_lt (by omega)]
      rwa[Array.getElem?_eq_getElem (by omega)]at this
    |false=>
     simp only[lv,ha,cond_false,dZ]at hp;have h1:=hrel _ _ hp;have hlt:fd.offset<vs.size:=by rw[hl];exact(List.getElem?_eq_some_iff.1 hp).1
     refine⟨vs.getD fd.offset undef,?_,h1⟩;simp[hlt]
  cases hr with
  |agg h0 h1=>
   simp only[sT]at h;rw[hf]at h;obtain⟨u,hu,hru⟩:=key _ _ h0 h1 h;exact⟨u,by simp only[Instr.field,Sem.run_bind,run_underlying hd,Result.andThen_ok,hfd,asAgg,Sem.run_pure,hu],hru⟩
  |v x=>
   cases v with
   |agg cs=>
    simp only[sT]at h;rw[hf]at h;obtain⟨u,hu,hru⟩:=key (cs.toList.map .v) cs (by simp) (fun j s hj=>by
     simp at hj;obtain⟨z,hz,rfl⟩:=hj;simp[hz];exact .v _) h
    exact⟨u,by simp only[Instr.field,Sem.run_bind,run_underlying hd,Result.andThen_ok,hfd,asAgg,Sem.run_pure,hu],hru⟩
   |_=>simp[sT,mq]at h
  |_=>simp[sT,mq]at h
end
end Go.Sx
end
