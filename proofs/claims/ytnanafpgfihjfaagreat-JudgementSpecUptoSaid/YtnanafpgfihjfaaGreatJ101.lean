/- Part of the proof that the law JudgementSpec returns true and leaves its arguments as they were, for all arguments of bulk at most 1048576 (the Upto form). -/
import Derived.Calls
import Derived.Orders
import Derived.Below
import Derived.KernelRfl
import Derived.Laws.Sem
import Derived.Laws.World
import Derived.Laws.Cells
set_option linter.all false
set_option maxHeartbeats 4000000
set_option maxRecDepth 100000
section
namespace Go.Sx
open Go.RowKit
structure Range where
 lo:Int
 hi:Int
 deriving Inhabited,DecidableEq
structure Ratio where
 n:Int
 d:Int
 deriving Inhabited,DecidableEq
structure Reach where
 name:ByteArray
 up:Int
 delay:Int
 cap:Int
 bank:Int
 siphon:Int
 evap:Range
 seep:Ratio×Ratio
 deriving Inhabited,DecidableEq
structure Farm where
 name:ByteArray
 reach:Int
 area:Int
 crop:Int
 deriving Inhabited,DecidableEq
structure Crop where
 name:ByteArray
 need:Int
 deriving Inhabited,DecidableEq
structure Right where
 name:ByteArray
 kind:Int
 farm:Int
 reach:Int
 rank:Int
 litres:Int
 since:Int
 to:Int
 every:Int
 length:Int
 deriving Inhabited,DecidableEq
structure Duty where
 name:ByteArray
 farm:Int
 reach:Int
 due:Int
 deriving Inhabited,DecidableEq
structure Well where
 farm:Int
 reach:Int
 d:Int
 kernel:List Int
 deriving Inhabited,DecidableEq
structure Claim where
 right:Int
 farm:Int
 hour:Int
 litres:Int
 rank:Int
 deriving Inhabited,DecidableEq
structure Judgement where
 no:Int
 hour:Int
 kind:Int
 farm:Int
 other:Int
 since:Int
 to:Int
 n:Int
 of_:Int
 deriving Inhabited,DecidableEq
structure Case where
 no:Int
 hour:Int
 winner:Int
 facts:List Int
 reason:List Int
 deriving Inhabited,DecidableEq
structure Clause where
 no:Int
 then_:Int
 rank:Int
 strict:Bool
 if_:List Int
 deriving Inhabited,DecidableEq
structure Plea where
 facts:List Int
 clauses:List Clause
 deriving Inhabited,DecidableEq
structure Suit where
 no:Int
 hour:Int
 question:Int
 plea:Plea
 facts:List Int
 deriving Inhabited,DecidableEq
structure Order where
 hour:Int
 index:Int
 litres:Int
 outlet:Bool
 deriving Inhabited,DecidableEq
structure PrecedentsDecided where
 winner:Int
 facts:Int
 reason:Int
 deriving Inhabited,DecidableEq
structure Reason where
 literal:Int
 clause:Int
 proved:Bool
 deriving Inhabited,DecidableEq
structure TimetableSlot where
 index:Int
 hour:Int
 deriving Inhabited,DecidableEq
structure Tank where
 cap:Int
 start:Int
 deriving Inhabited,DecidableEq
structure District where
 name:ByteArray
 hours:Int
 tank:Tank
 reaches:List Reach
 farms:List Farm
 crops:List Crop
 rights:List Right
 duties:List Duty
 wells:List Well
 deriving Inhabited,DecidableEq
structure Cases where
 sides:List Int
 cases:List Case
 deriving Inhabited,DecidableEq
structure PrecedentsCourt where
 favour:Int×Int
 cases:List PrecedentsDecided
 deriving Inhabited,DecidableEq
structure PleasCourt where
 plea:Plea
 strict:List (Int×Bool)
 known:List (Int×Int)
 deriving Inhabited,DecidableEq
structure Fault where
 kind:Int
 hour:Int
 index:Int
 litres:Int
 limit:Int
 deriving Inhabited,DecidableEq
structure Acequiaref51State where
 strict:List Int
 proved:List Int
 refuted:List Int
 deriving Inhabited,DecidableEq
inductive Tag where
 |reach|farm|crop|right|duty|int|well|claim|judgement|case|clause|suit|bool|order|fnc|precedentsDecided|reason|int2|timetableSlot|tank|district|cases|plea|precedentsCourt|pleasCourt|fault|ratio|ratio2|range|acequiaref51State|str
 deriving DecidableEq
abbrev Tag.T:Tag→Type
 | .reach=>Reach
 | .farm=>Farm
 | .crop=>Crop
 | .right=>Right
 | .duty=>Duty
 | .int=>Int
 | .well=>Well
 | .claim=>Claim
 | .judgement=>Judgement
 | .case=>Case
 | .clause=>Clause
 | .suit=>Suit
 | .bool=>Bool
 | .order=>Order
 | .fnc=>Option Nat
 | .precedentsDecided=>PrecedentsDecided
 | .reason=>Reason
 | .int2=>Int×Int
 | .timetableSlot=>TimetableSlot
 | .tank=>Tank
 | .district=>District
 | .cases=>Cases
 | .plea=>Plea
 | .precedentsCourt=>PrecedentsCourt
 | .pleasCourt=>PleasCourt
 | .fault=>Fault
 | .ratio=>Ratio
 | .ratio2=>Ratio×Ratio
 | .range=>Range
 | .acequiaref51State=>Acequiaref51State
 | .str=>ByteArray
def yl:Tag→Nat
 | .reach=>0
 | .farm=>1
 | .crop=>2
 | .right=>3
 | .duty=>4
 | .int=>5
 | .well=>6
 | .claim=>7
 | .judgement=>8
 | .case=>9
 | .clause=>10
 | .suit=>11
 | .bool=>12
 | .order=>13
 | .fnc=>14
 | .precedentsDecided=>15
 | .reason=>16
 | .int2=>17
 | .timetableSlot=>18
 | .tank=>19
 | .district=>20
 | .cases=>21
 | .plea=>22
 | .precedentsCourt=>23
 | .pleasCourt=>24
 | .fault=>25
 | .ratio=>26
 | .ratio2=>27
 | .range=>28
 | .acequiaref51State=>29
 | .str=>30
def rank:Tag→Nat
 | .reach=>0
 | .farm=>0
 | .crop=>0
 | .right=>0
 | .duty=>0
 | .int=>0
 | .well=>1
 | .claim=>0
 | .judgement=>0
 | .case=>1
 | .clause=>1
 | .suit=>2
 | .bool=>0
 | .order=>0
 | .fnc=>1
 | .precedentsDecided=>0
 | .reason=>0
 | .int2=>0
 | .timetableSlot=>0
 | .tank=>0
 | .district=>2
 | .cases=>2
 | .plea=>2
 | .precedentsCourt=>1
 | .pleasCourt=>2
 | .fault=>0
 | .ratio=>0
 | .ratio2=>0
 | .range=>0
 | .acequiaref51State=>1
 | .str=>0
def Tag.ofName:String→Option Tag
 | "api.Reach" =>some .reach
 | "api.Farm" =>some .farm
 | "api.Crop" =>some .crop
 | "api.Right" =>some .right
 | "api.Duty" =>some .duty
 | "api.Errno" =>some .int
 | "expand.refused" =>some .int
 | "int" =>some .int
 | "int64" =>some .int
 | "api.Well" =>some .well
 | "api.Claim" =>some .claim
 | "api.Judgement" =>some .judgement
 | "api.Case" =>some .case
 | "api.Clause" =>some .clause
 | "api.Suit" =>some .suit
 | "bool" =>some .bool
 | "api.Order" =>some .order
 | "func() bool" =>some .fnc
 | "func(api.Order) int" =>some .fnc
 | "func(judgement.docket, api.Judgement) judgement.docket" =>some .fnc
 | "precedents.decided" =>some .precedentsDecided
 | "api.Reason" =>some .reason
 | "[2]int" =>some .int2
 | "[2]precedents.set" =>some .int2
 | "timetable.slot" =>some .timetableSlot
 | "api.Tank" =>some .tank
 | "api.District" =>some .district
 | "api.Cases" =>some .cases
 | "api.Plea" =>some .plea
 | "precedents.court" =>some .precedentsCourt
 | "pleas.court" =>some .pleasCourt
 | "api.Fault" =>some .fault
 | "api.Ratio" =>some .ratio
 | "[2]api.Ratio" =>some .ratio2
 | "api.Range" =>some .range
 | "acequiaref51.state" =>some .acequiaref51State
 | "string" =>some .str
 |_=>none
instance instDecTag:(k:Tag)→DecidableEq k.T
 | .reach=>inferInstanceAs (DecidableEq (Reach))
 | .farm=>inferInstanceAs (DecidableEq (Farm))
 | .crop=>inferInstanceAs (DecidableEq (Crop))
 | .right=>inferInstanceAs (DecidableEq (Right))
 | .duty=>inferInstanceAs (DecidableEq (Duty))
 | .int=>inferInstanceAs (DecidableEq (Int))
 | .well=>inferInstanceAs (DecidableEq (Well))
 | .claim=>inferInstanceAs (DecidableEq (Claim))
 | .judgement=>inferInstanceAs (DecidableEq (Judgement))
 | .case=>inferInstanceAs (DecidableEq (Case))
 | .clause=>inferInstanceAs (DecidableEq (Clause))
 | .suit=>inferInstanceAs (DecidableEq (Suit))
 | .bool=>inferInstanceAs (DecidableEq (Bool))
 | .order=>inferInstanceAs (DecidableEq (Order))
 | .fnc=>inferInstanceAs (DecidableEq (Option Nat))
 | .precedentsDecided=>inferInstanceAs (DecidableEq (PrecedentsDecided))
 | .reason=>inferInstanceAs (DecidableEq (Reason))
 | .int2=>inferInstanceAs (DecidableEq (Int×Int))
 | .timetableSlot=>inferInstanceAs (DecidableEq (TimetableSlot))
 | .tank=>inferInstanceAs (DecidableEq (Tank))
 | .district=>inferInstanceAs (DecidableEq (District))
 | .cases=>inferInstanceAs (DecidableEq (Cases))
 | .plea=>inferInstanceAs (DecidableEq (Plea))
 | .precedentsCourt=>inferInstanceAs (DecidableEq (PrecedentsCourt))
 | .pleasCourt=>inferInstanceAs (DecidableEq (PleasCourt))
 | .fault=>inferInstanceAs (DecidableEq (Fault))
 | .ratio=>inferInstanceAs (DecidableEq (Ratio))
 | .ratio2=>inferInstanceAs (DecidableEq (Ratio×Ratio))
 | .range=>inferInstanceAs (DecidableEq (Range))
 | .acequiaref51State=>inferInstanceAs (DecidableEq (Acequiaref51State))
 | .str=>inferInstanceAs (DecidableEq (ByteArray))
structure Res where
 yv:Value
 n:Nat
 R:(Nat→Prop)→List Nat→World→Prop
 loc:∀ (F F':Nat→Prop) (bs:List Nat) (w w':World),R F bs w→w.heap.size≤w'.heap.size→(∀ b,b<w.heap.size→¬F b→w'.heap[b]? =w.heap[b]?)→(∀ b,b<w.heap.size→F' b→F b)→R F' bs w'
instance:Inhabited Res:=⟨⟨.nilFunc,0,fun _ _ _=>True,fun _ _ _ _ _ _ _ _ _=>trivial⟩⟩
inductive SV where
 |any
 |v (x:Value)
 |ptr (id off:Nat)
 |os (id:Nat)
 |e0
 |rp (sz id:Nat) (i:Int) (off:Nat)
 |gr (id:Nat) (i:Int)
 |gp (sz id:Nat) (i j:Int) (off:Nat)
 |ep (cells:List SV) (off:Nat)
 |rs (k:Tag) (l:List k.T)
 |ls (l:List SV)
 |rm (kk vk:Tag) (l:List (kk.T×vk.T))
 |agg (l:List SV)
 |tup (l:List SV)
 |fn (f:FuncId) (first caps:List SV)
 |nw (k:Tag) (l:List k.T)
 |nm (kk vk:Tag) (l:List (kk.T×vk.T))
 |ng (k:Tag) (l:List (List k.T))
 |gd (j:Nat) (want:Bool) (s:SV)
 |vw (sz id:Nat) (lo hi:Int)
 deriving Inhabited
abbrev SV.i (n:Int):SV:=.v (.int .i64 n)
abbrev SV.b (x:Bool):SV:=.v (.bool x)
abbrev SV.s (x:ByteArray):SV:=.v (.string x)
def fnV:Option Nat→SV|some f=>.fn f [] [] |none=>.v .nilFunc
def cellsOf:(k:Tag)→k.T→List SV
 | .reach,x=>[.v (.string x.name),.v (.int .i64 x.up),.v (.int .i64 x.delay),.v (.int .i64 x.cap),.v (.int .i64 x.bank),.v (.int .i64 x.siphon),.v (.int .i64 x.evap.lo),.v (.int .i64 x.evap.hi),.v (.int .i64 x.seep.1.n),.v (.int .i64 x.seep.1.d),.v (.int .i64 x.seep.2.n),.v (.int .i64 x.seep.2.d)]
 | .farm,x=>[.v (.string x.name),.v (.int .i64 x.reach),.v (.int .i64 x.area),.v (.int .i64 x.crop)]
 | .crop,x=>[.v (.string x.name),.v (.int .i64 x.need)]
 | .right,x=>[.v (.string x.name),.v (.int .i64 x.kind),.v (.int .i64 x.farm),.v (.int .i64 x.reach),.v (.int .i64 x.rank),.v (.int .i64 x.litres),.v (.int .i64 x.since),.v (.int .i64 x.to),.v (.int .i64 x.every),.v (.int .i64 x.length)]
 | .duty,x=>[.v (.string x.name),.v (.int .i64 x.farm),.v (.int .i64 x.reach),.v (.int .i64 x.due)]
 | .int,x=>[.v (.int .i64 x)]
 | .well,x=>[.v (.int .i64 x.farm),.v (.int .i64 x.reach),.v (.int .i64 x.d),.rs .int x.kernel]
 | .claim,x=>[.v (.int .i64 x.right),.v (.int .i64 x.farm),.v (.int .i64 x.hour),.v (.int .i64 x.litres),.v (.int .i64 x.rank)]
 | .judgement,x=>[.v (.int .i64 x.no),.v (.int .i64 x.hour),.v (.int .i64 x.kind),.v (.int .i64 x.farm),.v (.int .i64 x.other),.v (.int .i64 x.since),.v (.int .i64 x.to),.v (.int .i64 x.n),.v (.int .i64 x.of_)]
 | .case,x=>[.v (.int .i64 x.no),.v (.int .i64 x.hour),.v (.int .i64 x.winner),.rs .int x.facts,.rs .int x.reason]
 | .clause,x=>[.v (.int .i64 x.no),.v (.int .i64 x.then_),.v (.int .i64 x.rank),.v (.bool x.strict),.rs .int x.if_]
 | .suit,x=>[.v (.int .i64 x.no),.v (.int .i64 x.hour),.v (.int .i64 x.question),.rs .int x.plea.facts,.rs .clause x.plea.clauses,.rs .int x.facts]
 | .bool,x=>[.v (.bool x)]
 | .order,x=>[.v (.int .i64 x.hour),.v (.int .i64 x.index),.v (.int .i64 x.litres),.v (.bool x.outlet)]
 | .fnc,x=>[fnV x]
 | .precedentsDecided,x=>[.v (.int .i64 x.winner),.v (.int .u64 x.facts),.v (.int .u64 x.reason)]
 | .reason,x=>[.v (.int .i64 x.literal),.v (.int .i64 x.clause),.v (.bool x.proved)]
 | .int2,x=>[.v (.int .i64 x.1),.v (.int .i64 x.2)]
 | .timetableSlot,x=>[.v (.int .i64 x.index),.v (.int .i64 x.hour)]
 | .tank,x=>[.v (.int .i64 x.cap),.v (.int .i64 x.start)]
 | .district,x=>[.v (.string x.name),.v (.int .i64 x.hours),.v (.int .i64 x.tank.cap),.v (.int .i64 x.tank.start),.rs .reach x.reaches,.rs .farm x.farms,.rs .crop x.crops,.rs .right x.rights,.rs .duty x.duties,.rs .well x.wells]
 | .cases,x=>[.rs .int x.sides,.rs .case x.cases]
 | .plea,x=>[.rs .int x.facts,.rs .clause x.clauses]
 | .precedentsCourt,x=>[.v (.int .u64 x.favour.1),.v (.int .u64 x.favour.2),.rs .precedentsDecided x.cases]
 | .pleasCourt,x=>[.rs .int x.plea.facts,.rs .clause x.plea.clauses,.rm .int .bool x.strict,.rm .int .int x.known]
 | .fault,x=>[.v (.int .i64 x.kind),.v (.int .i64 x.hour),.v (.int .i64 x.index),.v (.int .i64 x.litres),.v (.int .i64 x.limit)]
 | .ratio,x=>[.v (.int .i64 x.n),.v (.int .i64 x.d)]
 | .ratio2,x=>[.v (.int .i64 x.1.n),.v (.int .i64 x.1.d),.v (.int .i64 x.2.n),.v (.int .i64 x.2.d)]
 | .range,x=>[.v (.int .i64 x.lo),.v (.int .i64 x.hi)]
 | .acequiaref51State,x=>[.rs .int x.strict,.rs .int x.proved,.rs .int x.refuted]
 | .str,x=>[.v (.string x)]
def ae:Tag→Nat
 | .reach=>12
 | .farm=>4
 | .crop=>2
 | .right=>10
 | .duty=>4
 | .int=>1
 | .well=>4
 | .claim=>5
 | .judgement=>9
 | .case=>5
 | .clause=>5
 | .suit=>6
 | .bool=>1
 | .order=>4
 | .fnc=>1
 | .precedentsDecided=>3
 | .reason=>3
 | .int2=>2
 | .timetableSlot=>2
 | .tank=>2
 | .district=>10
 | .cases=>2
 | .plea=>2
 | .precedentsCourt=>3
 | .pleasCourt=>4
 | .fault=>5
 | .ratio=>2
 | .ratio2=>4
 | .range=>2
 | .acequiaref51State=>3
 | .str=>1
theorem bb (k:Tag)(x:k.T):(cellsOf k x).length=ae k:=by cases k <;>rfl
def fK:(k:Tag)→k.T
 | .reach=>(default:Reach)
 | .farm=>(default:Farm)
 | .crop=>(default:Crop)
 | .right=>(default:Right)
 | .duty=>(default:Duty)
 | .int=>(0:Int)
 | .well=>(default:Well)
 | .claim=>(default:Claim)
 | .judgement=>(default:Judgement)
 | .case=>(default:Case)
 | .clause=>(default:Clause)
 | .suit=>(default:Suit)
 | .bool=>false
 | .order=>(default:Order)
 | .fnc=>(default:Option Nat)
 | .precedentsDecided=>(default:PrecedentsDecided)
 | .reason=>(default:Reason)
 | .int2=>(default:Int×Int)
 | .timetableSlot=>(default:TimetableSlot)
 | .tank=>(default:Tank)
 | .district=>(default:District)
 | .cases=>(default:Cases)
 | .plea=>(default:Plea)
 | .precedentsCourt=>(default:PrecedentsCourt)
 | .pleasCourt=>(default:PleasCourt)
 | .fault=>(default:Fault)
 | .ratio=>(default:Ratio)
 | .ratio2=>(default:Ratio×Ratio)
 | .range=>(default:Range)
 | .acequiaref51State=>(default:Acequiaref51State)
 | .str=>(ByteArray.mk #[])
inductive Kd where
 |s|b|n (k:IntKind) |r (k:Tag) |m (k k2:Tag) |f
def pb:Tag→Bool
 | .reach=>true
 | .farm=>true
 | .crop=>true
 | .right=>true
 | .duty=>true
 | .int=>false
 | .well=>true
 | .claim=>true
 | .judgement=>true
 | .case=>true
 | .clause=>true
 | .suit=>true
 | .bool=>false
 | .order=>true
 | .fnc=>false
 | .precedentsDecided=>true
 | .reason=>true
 | .int2=>true
 | .timetableSlot=>true
 | .tank=>true
 | .district=>true
 | .cases=>true
 | .plea=>true
 | .precedentsCourt=>true
 | .pleasCourt=>true
 | .fault=>true
 | .ratio=>true
 | .ratio2=>true
 | .range=>true
 | .acequiaref51State=>true
 | .str=>false
def FB:(k:Tag)→List (List k.T)→SV
 |_,_=>.any
def d_:Tag→List Kd
 | .reach=>[.s,.n .i64,.n .i64,.n .i64,.n .i64,.n .i64,.n .i64,.n .i64,.n .i64,.n .i64,.n .i64,.n .i64]
 | .farm=>[.s,.n .i64,.n .i64,.n .i64]
 | .crop=>[.s,.n .i64]
 | .right=>[.s,.n .i64,.n .i64,.n .i64,.n .i64,.n .i64,.n .i64,.n .i64,.n .i64,.n .i64]
 | .duty=>[.s,.n .i64,.n .i64,.n .i64]
 | .int=>[.n .i64]
 | .well=>[.n .i64,.n .i64,.n .i64,.r .int]
 | .claim=>[.n .i64,.n .i64,.n .i64,.n .i64,.n .i64]
 | .judgement=>[.n .i64,.n .i64,.n .i64,.n .i64,.n .i64,.n .i64,.n .i64,.n .i64,.n .i64]
 | .case=>[.n .i64,.n .i64,.n .i64,.r .int,.r .int]
 | .clause=>[.n .i64,.n .i64,.n .i64,.b,.r .int]
 | .suit=>[.n .i64,.n .i64,.n .i64,.r .int,.r .clause,.r .int]
 | .bool=>[.b]
 | .order=>[.n .i64,.n .i64,.n .i64,.b]
 | .fnc=>[.f]
 | .precedentsDecided=>[.n .i64,.n .u64,.n .u64]
 | .reason=>[.n .i64,.n .i64,.b]
 | .int2=>[.n .i64,.n .i64]
 | .timetableSlot=>[.n .i64,.n .i64]
 | .tank=>[.n .i64,.n .i64]
 | .district=>[.s,.n .i64,.n .i64,.n .i64,.r .reach,.r .farm,.r .crop,.r .right,.r .duty,.r .well]
 | .cases=>[.r .int,.r .case]
 | .plea=>[.r .int,.r .clause]
 | .precedentsCourt=>[.n .u64,.n .u64,.r .precedentsDecided]
 | .pleasCourt=>[.r .int,.r .clause,.m .int .bool,.m .int .int]
 | .fault=>[.n .i64,.n .i64,.n .i64,.n .i64,.n .i64]
 | .ratio=>[.n .i64,.n .i64]
 | .ratio2=>[.n .i64,.n .i64,.n .i64,.n .i64]
 | .range=>[.n .i64,.n .i64]
 | .acequiaref51State=>[.r .int,.r .int,.r .int]
 | .str=>[.s]
def toI:SV→Int| .v (.int _ n) =>n|_=>0
def toB:SV→Bool| .v (.bool b) =>b|_=>false
def toS:SV→ByteArray| .v (.string s) =>s|_=>ByteArray.mk #[]
def toF:SV→Option Nat| .fn f [] [] =>some f|_=>none
def zn:SV→List Reach| .rs .reach l=>l|_=>[]
def A9:SV→List Farm| .rs .farm l=>l|_=>[]
def A_:SV→List Crop| .rs .crop l=>l|_=>[]
def zo:SV→List Right| .rs .right l=>l|_=>[]
def Ba:SV→List Duty| .rs .duty l=>l|_=>[]
def lQ:SV→List Int| .rs .int l=>l|_=>[]
def Bb:SV→List Well| .rs .well l=>l|_=>[]
def Do:SV→List Claim| .rs .claim l=>l|_=>[]
def xn:SV→List Judgement| .rs .judgement l=>l|_=>[]
def Bc:SV→List Case| .rs .case l=>l|_=>[]
def sE:SV→List Clause| .rs .clause l=>l|_=>[]
def FC:SV→List Suit| .rs .suit l=>l|_=>[]
def FD:SV→List Bool| .rs .bool l=>l|_=>[]
def Dp:SV→List Order| .rs .order l=>l|_=>[]
def IX:SV→List (Option Nat) | .rs .fnc l=>l|_=>[]
def lw:SV→List PrecedentsDecided| .rs .precedentsDecided l=>l|_=>[]
def Bd:SV→List Reason| .rs .reason l=>l|_=>[]
def FE:SV→List (Int×Int) | .rs .int2 l=>l|_=>[]
def tx:SV→List TimetableSlot| .rs .timetableSlot l=>l|_=>[]
def FF:SV→List Tank| .rs .tank l=>l|_=>[]
def ym:SV→List District| .rs .district l=>l|_=>[]
def Dq:SV→List Cases| .rs .cases l=>l|_=>[]
def FG:SV→List Plea| .rs .plea l=>l|_=>[]
def r5:SV→List PrecedentsCourt| .rs .precedentsCourt l=>l|_=>[]
def v8:SV→List PleasCourt| .rs .pleasCourt l=>l|_=>[]
def Dt:SV→List Fault| .rs .fault l=>l|_=>[]
def Du:SV→List Ratio| .rs .ratio l=>l|_=>[]
def Be:SV→List (Ratio×Ratio) | .rs .ratio2 l=>l|_=>[]
def Dv:SV→List Range| .rs .range l=>l|_=>[]
def pY:SV→List Acequiaref51State| .rs .acequiaref51State l=>l|_=>[]
def IY:SV→List ByteArray| .rs .str l=>l|_=>[]
def uV:SV→List (Int×Bool) | .rm .int .bool l=>l|_=>[]
def v_:SV→List (Int×Int) | .rm .int .int l=>l|_=>[]
def at0:List SV→Nat→SV
 | [],_=>.any
 |x::_,0=>x
 |_::r,n+1=>at0 r n
def mkE:(k:Tag)→List SV→k.T
 | .reach,l=>(⟨toS (at0 l 0),toI (at0 l 1),toI (at0 l 2),toI (at0 l 3),toI (at0 l 4),toI (at0 l 5),⟨toI (at0 l 6),toI (at0 l 7)⟩,(⟨toI (at0 l 8),toI (at0 l 9)⟩,⟨toI (at0 l 10),toI (at0 l 11)⟩)⟩:Reach)
 | .farm,l=>(⟨toS (at0 l 0),toI (at0 l 1),toI (at0 l 2),toI (at0 l 3)⟩:Farm)
 | .crop,l=>(⟨toS (at0 l 0),toI (at0 l 1)⟩:Crop)
 | .right,l=>(⟨toS (at0 l 0),toI (at0 l 1),toI (at0 l 2),toI (at0 l 3),toI (at0 l 4),toI (at0 l 5),toI (at0 l 6),toI (at0 l 7),toI (at0 l 8),toI (at0 l 9)⟩:Right)
 | .duty,l=>(⟨toS (at0 l 0),toI (at0 l 1),toI (at0 l 2),toI (at0 l 3)⟩:Duty)
 | .int,l=>(toI (at0 l 0):Int)
 | .well,l=>(⟨toI (at0 l 0),toI (at0 l 1),toI (at0 l 2),lQ (at0 l 3)⟩:Well)
 | .claim,l=>(⟨toI (at0 l 0),toI (at0 l 1),toI (at0 l 2),toI (at0 l 3),toI (at0 l 4)⟩:Claim)
 | .judgement,l=>(⟨toI (at0 l 0),toI (at0 l 1),toI (at0 l 2),toI (at0 l 3),toI (at0 l 4),toI (at0 l 5),toI (at0 l 6),toI (at0 l 7),toI (at0 l 8)⟩:Judgement)
 | .case,l=>(⟨toI (at0 l 0),toI (at0 l 1),toI (at0 l 2),lQ (at0 l 3),lQ (at0 l 4)⟩:Case)
 | .clause,l=>(⟨toI (at0 l 0),toI (at0 l 1),toI (at0 l 2),toB (at0 l 3),lQ (at0 l 4)⟩:Clause)
 | .suit,l=>(⟨toI (at0 l 0),toI (at0 l 1),toI (at0 l 2),⟨lQ (at0 l 3),sE (at0 l 4)⟩,lQ (at0 l 5)⟩:Suit)
 | .bool,l=>(toB (at0 l 0):Bool)
 | .order,l=>(⟨toI (at0 l 0),toI (at0 l 1),toI (at0 l 2),toB (at0 l 3)⟩:Order)
 | .fnc,l=>(toF (at0 l 0):Option Nat)
 | .precedentsDecided,l=>(⟨toI (at0 l 0),toI (at0 l 1),toI (at0 l 2)⟩:PrecedentsDecided)
 | .reason,l=>(⟨toI (at0 l 0),toI (at0 l 1),toB (at0 l 2)⟩:Reason)
 | .int2,l=>((toI (at0 l 0),toI (at0 l 1)):Int×Int)
 | .timetableSlot,l=>(⟨toI (at0 l 0),toI (at0 l 1)⟩:TimetableSlot)
 | .tank,l=>(⟨toI (at0 l 0),toI (at0 l 1)⟩:Tank)
 | .district,l=>(⟨toS (at0 l 0),toI (at0 l 1),⟨toI (at0 l 2),toI (at0 l 3)⟩,zn (at0 l 4),A9 (at0 l 5),A_ (at0 l 6),zo (at0 l 7),Ba (at0 l 8),Bb (at0 l 9)⟩:District)
 | .cases,l=>(⟨lQ (at0 l 0),Bc (at0 l 1)⟩:Cases)
 | .plea,l=>(⟨lQ (at0 l 0),sE (at0 l 1)⟩:Plea)
 | .precedentsCourt,l=>(⟨(toI (at0 l 0),toI (at0 l 1)),lw (at0 l 2)⟩:PrecedentsCourt)
 | .pleasCourt,l=>(⟨⟨lQ (at0 l 0),sE (at0 l 1)⟩,uV (at0 l 2),v_ (at0 l 3)⟩:PleasCourt)
 | .fault,l=>(⟨toI (at0 l 0),toI (at0 l 1),toI (at0 l 2),toI (at0 l 3),toI (at0 l 4)⟩:Fault)
 | .ratio,l=>(⟨toI (at0 l 0),toI (at0 l 1)⟩:Ratio)
 | .ratio2,l=>((⟨toI (at0 l 0),toI (at0 l 1)⟩,⟨toI (at0 l 2),toI (at0 l 3)⟩):Ratio×Ratio)
 | .range,l=>(⟨toI (at0 l 0),toI (at0 l 1)⟩:Range)
 | .acequiaref51State,l=>(⟨lQ (at0 l 0),lQ (at0 l 1),lQ (at0 l 2)⟩:Acequiaref51State)
 | .str,l=>(toS (at0 l 0):ByteArray)
def kN:IntKind→Nat
 | .i8=>0| .i16=>1| .i32=>2| .i64=>3| .u8=>4| .u16=>5| .u32=>6| .u64=>7
def fit:Kd→SV→Bool
 | .s,.v (.string _) =>true
 | .b,.v (.bool _) =>true
 | .n k,.v (.int k' _) =>Nat.beq (kN k) (kN k')
 | .r k,.rs k' _=>Nat.beq (yl k) (yl k')
 | .m k k2,.rm k' k2' _=>Nat.beq (yl k) (yl k')&&Nat.beq (yl k2) (yl k2')
 | .f,.fn _ [] [] =>true
 | .f,.v .nilFunc=>true
 |_,_=>false
def uj:List Kd→List SV→Bool
 | [],[] =>true
 |k::ks,x::xs=>fit k x&&uj ks xs
 |_,_=>false
def FH:Kd→SV→SV
 | .r k,.v (.slice none 0 0) =>.rs k []
 | .r k,.e0=>.rs k []
 | .m k k2,.v (.map none) =>.rm k k2 []
 |_,s=>s
def xh:List Kd→List SV→List SV
 |k::ks,s::r=>FH k s::xh ks r
 |_,l=>l
def uk (k:Tag)(l:List SV):Option k.T:=bif uj (d_ k) l then some (mkE k l)else none
def pc (k:Tag)(l:List SV):Option k.T:=uk k (xh (d_ k) l)
inductive Pk where
 |st (k:Tag)
 |sl (k:Tag)
 |mp (k k2:Tag)
 |o
def zp:Pk→SV→SV
 | .st k,.agg l=>.agg (xh (d_ k) l)
 | .sl k,s=>FH (.r k) s
 | .mp k k2,s=>FH (.m k k2) s
 |_,s=>s
def a7:List Pk→List SV→List SV
 |p::ps,s::r=>zp p s::a7 ps r
 |_,l=>l
structure TI where
 size:Nat
 bytes:Nat
 agg:Bool
 zero:List SV
 fields:List (Nat×Nat×Bool)
 elem:Nat
 len:Nat
 isSlice:Bool
 isArr:Bool
 tag:Option Tag
 int:Option IntKind
 iface:Bool
 eq:List Nat
 mkt:Option Tag
 mvt:Option Tag
 sc:Nat
def svs (v:Value):List SV:=v.cells.toList.map .v
def nU (P:Program)(t:TypeId):Nat:=match P.info? t with|some i=>i.size|none=>0
def kz (P:Program)(t:TypeId):Bool:=match P.underlying t with|some (.struct _) =>true|some (.array _ _) =>true|_=>false
def bL:Option TypeDesc→Nat
 |some (.int _) =>1
 |some .string=>2
 |some .bool=>3
 |_=>0
def eqFields (P:Program):Nat→List Field→Bool
 |_,[] =>true
 |n,f::r=>(f.name != "_")&&Nat.beq f.offset n&&Nat.blt 0 (bL (P.underlying f.type))&&eqFields P (n+1) r
def oB (P:Program)(t:TypeId)(d:TypeDesc):List Nat:=match d with
 | .struct fs=>bif !P.stoodInHeld t&& !P.eqGuardType P.depth t&&eqFields P 0 fs.toList then fs.toList.map fun f=>bL (P.underlying f.type)else []
 | .array n e=>bif !P.eqGuardType P.depth t&&Nat.blt 0 (bL (P.underlying e))&&Nat.beq (nU P e) 1 then List.replicate n (bL (P.underlying e))else []
 |_=>[]
def nV (P:Program)(t:TypeId):List Nat:=match P.underlying t with
 |some (.struct gs) =>bif !P.stoodInHeld t&&eqFields P 0 gs.toList&&Nat.beq (nU P t) gs.size&&(P.info? t).isSome then gs.toList.map fun f=>bL (P.underlying f.type)else []
 |d=>bif Nat.blt 0 (bL d)then [bL d]else []
def ul (P:Program):Nat→List Field→Bool
 |_,[] =>true
 |n,f::r=>(f.name != "_")&&Nat.beq f.offset n&&Nat.blt 0 (nV P f.type).length&&ul P (n+(nV P f.type).length) r
def El (P:Program)(t:TypeId)(d:TypeDesc):List Nat:=match d with
 | .struct fs=>bif !P.stoodInHeld t&& !P.eqGuardType P.depth t&&ul P 0 fs.toList then fs.toList.flatMap fun f=>nV P f.type else []
 |_=>[]
def LH (P:Program)(t:TypeId)(d:TypeDesc):List Nat:=match oB P t d with
 | [] =>El P t d
 |l=>l
def IZ:SV→SV→Bool
 | .v (.int k a),.v (.int k' b) =>Nat.beq (kN k) (kN k')&&(match a,b with| .ofNat 0,.ofNat 0=>true|_,_=>false)
 | .v (.string a),.v (.string b) =>Nat.beq a.size 0&&Nat.beq b.size 0
 | .v (.bool false),.v (.bool false) =>true
 | .rs _ [],.v (.slice none 0 0) =>true
 | .rm _ _ [],.v (.map none) =>true
 | .v .nilFunc,.v .nilFunc=>true
 |_,_=>false
def tU:List SV→List SV→Bool
 | [],[] =>true
 |a::r,b::s=>IZ a b&&tU r s
 |_,_=>false
def zq:Bool→Bool→Bool
 |true,true=>true
 |false,false=>true
 |_,_=>false
def Bf:Value→Bool
 | .agg _=>true
 |_=>false
def zr (P:Program)(t:TypeId)(i:TypeInfo)(k:Tag):Bool:=
 (match i.zero with|some z=>zq (Bf z) (pb k) |none=>false)&&Nat.beq i.size (ae k)&&Nat.ble 1 i.bytes&&tU (cellsOf k (fK k)) (match i.zero with|some z=>svs z|none=>[])&&zq (kz P t) (pb k)
def xo (P:Program)(t:TypeId)(i:TypeInfo):Option Tag:=match Tag.ofName i.str with|some k=>bif zr P t i k then some k else none|none=>none
def FI (P:Program)(t:TypeId):Option Tag:=match P.info? t with|some i=>xo P t i|none=>none
def iz:Kd→Nat
 | .n _=>1
 | .s=>2
 | .b=>3
 |_=>0
def Bg:List Nat→List Nat→Bool
 | [],[] =>true
 |a::r,b::s=>Nat.beq a b&&Bg r s
 |_,_=>false
def Hw (P:Program)(t:TypeId)(k:Tag):Bool:=match P.underlying t with
 |some d=>bif kz P t then Bg ((d_ k).map iz) (oB P t d)&&Nat.blt 0 (d_ k).length else Bg ((d_ k).map iz) [bL (some d)]&&Nat.blt 0 (bL (some d))
 |none=>false
def FJ (P:Program)(t:TypeId):Option Tag:=match FI P t with|some k=>bif Hw P t k then some k else none|none=>none
def dq (P:Program)(t:TypeId)(i:TypeInfo)(d:TypeDesc):TI:=
 {size:=i.size
  bytes:=i.bytes
  agg:=kz P t
  zero:=match i.zero with|some z=>svs z|none=>[]
  fields:=match d with| .struct fs=>fs.toList.map fun f=>(f.offset,nU P f.type,kz P f.type) |_=>[]
  elem:=match d with| .slice e=>e| .array _ e=>e| .map _ e=>e|_=>0
  len:=match d with| .array n _=>n|_=>0
  isSlice:=match d with| .slice _=>true|_=>false
  isArr:=match d with| .array _ _=>true|_=>false
  tag:=xo P t i
  int:=match d with| .int k=>some k|_=>none
  iface:=match d with| .interface _=>true|_=>false
  eq:=LH P t d
  mkt:=match d with| .map k _=>FJ P k|_=>none
  mvt:=match d with| .map _ e=>FI P e|_=>none
  sc:=bL (some d)}
def wa (P:Program)(d:TypeDesc):Bool:=match d with| .struct fs=>fs.toList.all fun f=>(P.info? f.type).isSome&&(P.underlying f.type).isSome|_=>true
def cF (P:Program)(t:TypeId):Option TI:=
 match P.info? t,P.underlying t with
 |some i,some d=>bif i.zero.isSome&&wa P d then some (dq P t i d)else none
 |_,_=>none
abbrev Tis:=TypeId→Option TI
def Tis.ok (ts:Tis)(P:Program):Prop:= ∀ t i,ts t=some i→cF P t=some i
inductive Ob where
 |cells (l:List SV)
 |dead
 |row (k:Tag) (l:List k.T)
 |mp (kk vk:Tag) (l:List (kk.T×vk.T)) (pend:Option (Nat×Option kk.T))
 |grid (k:Tag) (l:List (List k.T))
 |ab (r:Res)
 |raw (o:Obj)
 |mi (mid:Option Nat) (n:Nat) (left:List Nat) (cur:Option Nat)
 |fwd (n:Option Nat)
 |fz (k:Tag) (l:List k.T)
instance:Inhabited Ob:=⟨.dead⟩
structure St where
 t:List (Nat×SV)
 h:List Ob
 deriving Inhabited
def lk (t:Nat):List (Nat×SV)→SV
 | [] =>.any
 |(a,s)::r=>bif Nat.beq a t then s else lk t r
def St.put (st:St)(d:Option Nat)(s:SV):St:=match d with|some d=>⟨(d,s)::st.t,st.h⟩ |none=>st
def an:List Ob→Nat→Ob
 | [],_=>.dead
 |o::_,0=>o
 |_::r,n+1=>an r n
def br:List Ob→Nat→Ob→List Ob
 | [],0,x=>[x]
 | [],n+1,x=>.dead::br [] n x
 |_::r,0,x=>x::r
 |o::r,n+1,x=>o::br r n x
abbrev Up:=Nat×Ob
def noE {κ:Type}:Option (Nat×Option κ)→Bool
 |some (_,some _) =>false
 |_=>true
def aU (h:List Ob):List Up→List Ob
 | [] =>h
 |(id,o)::r=>aU (br h id o) r
inductive Con where
 |det (pre:Prop) (s:SV)
 |rel (α:Type) (pre:Prop) (post:α→Prop) (out:α→SV)
 |may (ok:Bool) (s:SV) (x:Value)
inductive Rs where
 |ret (s:SV) (h:List Ob)
 |pan (x:Value) (h:List Ob)
structure HCon where
 α:Type
 pre:Prop
 post:α→Prop
 res:α→Rs
structure YCon where
 α:Type
 pre:Prop
 post:α→Prop
 res:α→Bool×Res
structure Cons where
 p:FuncId→List SV→Option Con
 o:FuncId→List SV→List Ob→Option HCon
 y:List SV→Res→Option YCon
def pP:SV→Option (List SV)
 | .agg l=>some l
 | .v (.agg cs) =>some (cs.toList.map .v)
 | .v (.tuple _) =>none
 | .any=>none
 | .tup _=>none
 | .gd .. =>none
 | .nw .. =>none
 | .nm .. =>none
 | .ng .. =>none
 |s=>some [s]
def nth {α:Type}:List α→Nat→Option α
 | [],_=>none
 |x::_,0=>some x
 |_::r,n+1=>nth r n
def cut:Nat→List SV→List SV
 |0,_=>[]
 |_+1,[] =>[]
 |n+1,x::r=>x::cut n r
def FK:Nat→List SV→List SV
 |0,l=>l
 |_+1,[] =>[]
 |n+1,_::r=>FK n r
def sz:List SV→Nat
 | [] =>0
 |_::r=>sz r+1
def rK (agg:Bool)(size:Nat)(cells:List SV)(off:Nat):Option SV:=
 bif agg then(bif Nat.ble (off+size) (sz cells)then some (.agg (cut size (FK off cells)))else none)
 else nth cells off
def Bh:List SV→Nat→SV→List SV
 | [],_,_=>[]
 |_::r,0,s=>s::r
 |x::r,n+1,s=>x::Bh r n s
def gK (cells:List SV)(off:Nat):List SV→List SV
 | [] =>cells
 |x::xs=>gK (Bh cells off x) (off+1) xs
section
variable {κ υ:Type}
def kf [DecidableEq κ]:List (κ×υ)→κ→Option υ
 | [],_=>none
 |(a,b)::r,x=>if x=a then some b else kf r x
def wb [DecidableEq κ]:List (κ×υ)→κ→υ→List (κ×υ)
 | [],x,y=>[(x,y)]
 |(a,b)::r,x,y=>if x=a then(x,y)::r else(a,b)::wb r x y
def Hz [DecidableEq κ]:List (κ×υ)→κ→Nat
 | [],_=>0
 |(a,_)::r,x=>if x=a then 0 else Hz r x+1
end
def fZ (kk vk:Tag)(l:List (kk.T×vk.T))(x:kk.T):vk.T:=(kf l x).getD (fK vk)
def I0 (kk vk:Tag)(l:List (kk.T×vk.T))(x:kk.T):Bool:=(kf l x).isSome
def lR (kk vk:Tag)(l:List (kk.T×vk.T))(x:kk.T)(y:vk.T):List (kk.T×vk.T):=wb l x y
def AB {κ υ:Type}[DecidableEq κ]:List (κ×υ)→κ→List (κ×υ)
 | [],_=>[]
 |(a,b)::r,x=>if x=a then r else(a,b)::AB r x
def yn (kk vk:Tag)(l:List (kk.T×vk.T))(x:kk.T):List (kk.T×vk.T):=AB l x
def r6 (kk vk:Tag)(l:List (kk.T×vk.T))(x:kk.T):Nat:=Hz l x
def Wn (kk vk:Tag)(l:List (kk.T×vk.T))(x:kk.T):Option kk.T:=if(kf l x).isSome then none else some x
def svT (k:Tag)(x:k.T):SV:=bif pb k then .agg (cellsOf k x)else(nth (cellsOf k x) 0).getD .any
def Ad (k:Tag):Option (List SV)→Option k.T
 |some l=>pc k l
 |none=>none
def yo:SV→Option (List SV)
 | .agg l=>some l
 | .v (.agg cs) =>some (cs.toList.map .v)
 |_=>none
def zt:SV→Option (List SV)
 | .agg _=>none
 | .v (.agg _) =>none
 |s=>pP s
def unT (k:Tag)(s:SV):Option k.T:=bif pb k then Ad k (yo s)else Ad k (zt s)
inductive OR where
 |val (s:SV)
 |chk (c:Prop) (s:SV)
 |asm (c:Prop) (s:SV)
 |newr (s:SV)
 |eff (c a:Prop) (ups:List Up) (s:SV)
 |call (f:FuncId) (args:List SV)
 |yld (id:Nat) (args:List SV)
 |nxt (id:Nat)
 |amb (p:Bool→Prop)
 |pan (x:Value)
 |bad
structure Cx where
 ts:Tis
 ops:List Oper
 g:Option (Nat×Bool)
 st:St
 nx:Nat
def qC (ops:List Oper):Nat→Option (Nat×Bool)→Nat→Bool→Bool
 |0,_,_,_=>false
 |_+1,none,_,_=>false
 |n+1,some (j,b),j',b'=>bif Nat.beq j j'&&zq b b' then true else qC ops n ((nth ops j).bind (·.guard)) j' b'
def be (ops:List Oper)(g:Option (Nat×Bool)):SV→SV
 | .gd j b s=>bif qC ops ops.length g j b then s else .any
 | .any=>.any
 | .v x=>.v x
 | .ptr a b=>.ptr a b
 | .os a=>.os a
 | .e0=>.e0
 | .rp a b c d=>.rp a b c d
 | .gr a b=>.gr a b
 | .gp a b c d e=>.gp a b c d e
 | .ep a b=>.ep a b
 | .rs k l=>.rs k l
 | .ls l=>.ls l
 | .rm k k2 l=>.rm k k2 l
 | .agg l=>.agg l
 | .tup l=>.tup l
 | .fn f l m=>.fn f l m
 | .nw k l=>.nw k l
 | .nm k k2 l=>.nm k k2 l
 | .ng k l=>.ng k l
 | .vw a b c d=>.vw a b c d
def raw (t:List (Nat×SV)):Operand→SV
 | .tmp n=>lk n t
 | .const x=>.v x
 | .func f=>.fn f [] []
 | .global _=>.any
def val (cx:Cx)(x:Operand):SV:=be cx.ops cx.g (raw cx.st.t x)
def cG (cx:Cx):List Operand→List SV
 | [] =>[]
 |x::r=>val cx x::cG cx r
def pa (cx:Cx):Option Operand→Option SV
 |some x=>some (val cx x)
 |none=>none
def gL (cx:Cx):List (Nat×Operand)→List (Nat×SV)
 | [] =>[]
 |(i,x)::r=>(i,val cx x)::gL cx r
def isTrue:Operand→Bool
 | .const (.bool true) =>true
 |_=>false
def isFalse:Operand→Bool
 | .const (.bool false) =>true
 |_=>false
def Dw (ops:List Oper)(j:Nat)(c:Operand):Bool:=
 match (nth ops j).bind (·.dst),c with
 |some d,.tmp t=>Nat.beq d t
 |_,_=>false
def kU (ops:List Oper)(g:Option (Nat×Bool))(c:Operand)(want:Bool):SV→SV
 | .gd j b s=>bif zq b want&&Dw ops j c then s else be ops g (.gd j b s)
 |s=>be ops g s
def Bi (a b:Operand):SV→SV→SV→OR
 | .v (.bool x),.v (.bool y),.v (.bool z) =>bif isTrue a then .val (.b (x||z))else bif isFalse b then .val (.b (x&&y))else .bad
 | .v (.bool x),.any,.v (.bool z) =>.chk (x=false) (.b z)
 | .v (.bool x),.v (.bool y),.any=>.chk (x=true) (.b y)
 |_,_,_=>.bad
def Wo (k:IntKind)(a b:Int):Int:=a.fdiv (2 ^ min b.toNat k.bits)
def LI (k:IntKind)(a b:Int):Int:=k.wrap (a*2 ^ min b.toNat k.bits)
def FL (k:IntKind)(a b:Int):Int:=k.wrap ((BitVec.ofInt k.bits a&&&BitVec.ofInt k.bits b).toNat:Int)
def orI (k:IntKind)(a b:Int):Int:=k.wrap ((BitVec.ofInt k.bits a|||BitVec.ofInt k.bits b).toNat:Int)
def Wp (k:IntKind)(a b:Int):Int:=k.wrap ((BitVec.ofInt k.bits a ^^^ BitVec.ofInt k.bits b).toNat:Int)
def yp (k:IntKind)(a b:Int):Int:=k.wrap ((BitVec.ofInt k.bits a&&& ~~~(BitVec.ofInt k.bits b)).toNat:Int)
def um (op:BinOp)(k:IntKind)(a b:Int):OR:=
 match op with
 | .add=>.val (.v (.int k (k.wrap (a+b))))
 | .sub=>.val (.v (.int k (k.wrap (a - b))))
 | .mul=>.val (.v (.int k (k.wrap (a*b))))
 | .quo=>.chk (b≠0) (.v (.int k (k.wrap (a.tdiv b))))
 | .rem=>.chk (b≠0) (.v (.int k (a.tmod b)))
 | .shr=>.chk (0≤b) (.v (.int k (Wo k a b)))
 | .shl=>.chk (0≤b) (.v (.int k (LI k a b)))
 | .and=>.val (.v (.int k (FL k a b)))
 | .or=>.val (.v (.int k (orI k a b)))
 | .xor=>.val (.v (.int k (Wp k a b)))
 | .andNot=>.val (.v (.int k (yp k a b)))
 | .eql=>.val (.v (.bool (a==b)))
 | .neq=>.val (.v (.bool (a !=b)))
 | .lss=>.val (.v (.bool (decide (a<b))))
 | .leq=>.val (.v (.bool (decide (a≤b))))
 | .gtr=>.val (.v (.bool (decide (a > b))))
 | .geq=>.val (.v (.bool (decide (a≥b))))
def I1 (op:BinOp)(a b:ByteArray):OR:=
 match op with
 | .eql=>.val (.v (.bool (a==b)))
 | .neq=>.val (.v (.bool (a !=b)))
 |_=>.bad
def Em (op:BinOp)(a b:Bool):OR:=
 match op with
 | .eql=>.val (.v (.bool (a==b)))
 | .neq=>.val (.v (.bool (a !=b)))
 |_=>.bad
def eqV (c:Nat):SV→SV→Option Bool
 | .v (.int k a),.v (.int k' b) =>bif Nat.beq c 1&&Nat.beq (kN k) (kN k')then some (a==b)else none
 | .v (.string a),.v (.string b) =>bif Nat.beq c 2 then some (a==b)else none
 | .v (.bool a),.v (.bool b) =>bif Nat.beq c 3 then some (a==b)else none
 |_,_=>none
def xQ:Option Bool→Option Bool→Option Bool
 |some a,some b=>some (a&&b)
 |_,_=>none
def eqL:List Nat→List SV→List SV→Option Bool
 | [],[],[] =>some true
 |c::cs,x::r,y::s=>xQ (eqV c x y) (eqL cs r s)
 |_,_,_=>none
def eqO (op:BinOp):Option Bool→OR
 |some b=>match op with| .eql=>.val (.v (.bool b)) | .neq=>.val (.v (.bool !b)) |_=>.bad
 |none=>.bad
def R5 (op:BinOp)(l m:List SV):List Nat→OR
 | [] =>.bad
 |c::cs=>eqO op (eqL (c::cs) l m)
def aC (ts:Tis)(t:TypeId)(k:TI→OR):OR:=match ts t with|some i=>k i|none=>.bad
def eqT (op:BinOp)(l m:List SV)(ti:TI):OR:=R5 op l m ti.eq
def yq (op:BinOp)(k k':IntKind):Bool:=
 match op with
 | .shl=>true
 | .shr=>true
 |_=>Nat.beq (kN k) (kN k')
def R6 (op:BinOp):SV→SV→OR
 | .v (.int k a),.v (.int k' b) =>bif yq op k k' then um op k a b else .bad
 |_,_=>.bad
def OO (op:BinOp)(p:Prop):OR:=
 match op with
 | .eql=>.amb fun b=>b=true→p
 | .neq=>.amb fun b=>b=false→p
 |_=>.bad
def eqS (op:BinOp)(ti:TI):SV→SV→OR
 | .rs _ l,.v (.slice none 0 0) =>bif ti.isSlice then OO op (l=[])else .bad
 | .v (.string a),.v (.string b) =>bif Nat.beq ti.sc 2 then I1 op a b else .bad
 | .v (.bool a),.v (.bool b) =>bif Nat.beq ti.sc 3 then Em op a b else .bad
 | .agg l,.agg m=>eqT op l m ti
 |_,_=>.bad
def En (ts:Tis)(op:BinOp)(t:TypeId):SV→SV→OR
 | .v (.int k a),.v (.int k' b) =>R6 op (.v (.int k a)) (.v (.int k' b))
 |a,b=>aC ts t fun ti=>eqS op ti a b
def unS:UnOp→SV→OR
 | .not,.v (.bool b) =>.val (.v (.bool !b))
 | .neg,.v (.int k n) =>.val (.v (.int k (k.wrap (0 - n))))
 |_,_=>.bad
def un:Option SV→OR
 |some s=>.val s
 |none=>.bad
def Bj (agg:Bool)(size szt:Nat)(id:Nat)(i:Int)(off:Nat):Ob→OR
 | .row k l=>bif Nat.beq szt (ae k)then un (rK agg size (cellsOf k (l.getD i.toNat (fK k))) off)else .bad
 | .grid _ _=>bif Nat.beq szt 1&&Nat.beq off 0&& !agg then .val (.gr id i)else .bad
 |_=>.bad
def zu (agg:Bool)(size szt:Nat)(i j:Int)(off:Nat):Ob→OR
 | .grid k l=>bif Nat.beq szt (ae k)then un (rK agg size (cellsOf k ((l.getD i.toNat []).getD j.toNat (fK k))) off)else .bad
 |_=>.bad
def yr (agg:Bool)(size off:Nat):Ob→OR
 | .cells l=>un (rK agg size l off)
 |_=>.bad
def qR (ti:TI)(h:List Ob):SV→OR
 | .ptr id off=>yr ti.agg ti.size off (an h id)
 | .ep l off=>un (rK ti.agg ti.size l off)
 | .rp s id i off=>Bj ti.agg ti.size s id i off (an h id)
 | .gp s id i j off=>zu ti.agg ti.size s i j off (an h id)
 |_=>.bad
def yu (n:Nat):SV→OR
 | .ptr id off=>.val (.ptr id (off+n))
 | .ep l off=>.val (.ep l (off+n))
 | .rp s id i off=>.val (.rp s id i (off+n))
 | .gp s id i j off=>.val (.gp s id i j (off+n))
 |_=>.bad
def Bk (esz id:Nat)(i:Int):Ob→OR
 | .row k l=>bif Nat.beq esz (ae k)then .chk (0≤i∧i< (l.length:Int)) (.rp esz id i 0)else .bad
 | .grid _ l=>bif Nat.beq esz 1 then .chk (0≤i∧i< (l.length:Int)) (.rp 1 id i 0)else .bad
 |_=>.bad
def Eo (esz id:Nat)(i j:Int):Ob→OR
 | .grid k l=>bif Nat.beq esz (ae k)then .chk (0≤j∧j< ((l.getD i.toNat []).length:Int)) (.gp esz id i j 0)else .bad
 |_=>.bad
def HA (i:Int):Option SV→OR
 |some s=>.chk (0≤i) (.ep [s] 0)
 |none=>.bad
def g7 (ti:TI)(esz:Nat)(h:List Ob):SV→SV→OR
 | .rs k l,.v (.int _ i) =>bif ti.isSlice&&Nat.beq esz (ae k)then .chk (0≤i∧i< (l.length:Int)) (.ep (cellsOf k (l.getD i.toNat (fK k))) 0)else .bad
 | .os id,.v (.int _ i) =>bif ti.isSlice then Bk esz id i (an h id)else .bad
 | .gr id i,.v (.int _ j) =>bif ti.isSlice then Eo esz id i j (an h id)else .bad
 | .ls l,.v (.int _ i) =>bif ti.isSlice&&Nat.beq esz 1 then HA i (nth l i.toNat)else .bad
 | .ptr id off,.v (.int _ i) =>bif ti.isArr then .chk (0≤i∧i< (ti.len:Int)) (.ptr id (off+i.toNat*esz))else .bad
 | .ep l off,.v (.int _ i) =>bif ti.isArr then .chk (0≤i∧i< (ti.len:Int)) (.ep l (off+i.toNat*esz))else .bad
 | .rp s id i off,.v (.int _ j) =>bif ti.isArr then .chk (0≤j∧j< (ti.len:Int)) (.rp s id i (off+j.toNat*esz))else .bad
 |_,_=>.bad
def mc (place:Nat→Option (Nat×Nat))(cells:List SV):List (Nat×SV)→Option (List SV)
 | [] =>some cells
 |(i,v)::rest=>
  match place i,pP v with
  |some (off,size),some vs=>bif Nat.beq (sz vs) size&&Nat.ble (off+size) (sz cells)then mc place (gK cells off vs) rest else none
  |_,_=>none
def r7 (k:Tag)(size:Nat):Nat→List SV→Option (List k.T)
 |0,_=>some []
 |n+1,cells=>match pc k (cut size cells),r7 k size n (FK size cells)with
  |some x,some xs=>some (x::xs)
  |_,_=>none
def AC (n:Nat)(z:List SV):List SV:=match n with|0=>[] |n+1=>z++AC n z
def sF (f:Option (Nat×Nat×Bool))(l:Option (List SV)):OR:=
 match f,l with
 |some (o,n,g),some l=>un (rK g n l o)
 |_,_=>.bad
def HB:SV→Bool
 | .v (.agg _) =>false
 | .v (.tuple _) =>false
 | .any=>false
 | .agg _=>false
 | .tup _=>false
 | .gd .. =>false
 | .nw .. =>false
 | .nm .. =>false
 | .ng .. =>false
 |_=>true
def uW:List SV→Bool
 | [] =>true
 |x::r=>HB x&&uW r
def HC (k:Tag)(id:Nat)(i:Int)(l:List k.T):Option k.T→OR
 |some x=>.eff True True [(id,.row k (l.set i.toNat x))] .any
 |none=>.bad
def Ep (k:Tag)(id:Nat)(i j:Int)(l:List (List k.T)):Option k.T→OR
 |some x=>.eff True True [(id,.grid k (l.set i.toNat ((l.getD i.toNat []).set j.toNat x)))] .any
 |none=>.bad
def HD (id off:Nat)(vs:List SV):Ob→OR
 | .cells l=>bif Nat.ble (off+sz vs) (sz l)&&uW vs then .eff True True [(id,.cells (gK l off vs))] .any else .bad
 |_=>.bad
def HE (s id:Nat)(i:Int)(off:Nat)(vs:List SV):Ob→OR
 | .row k l=>bif Nat.beq s (ae k)&&Nat.ble (off+sz vs) s then HC k id i l (pc k (gK (cellsOf k (l.getD i.toNat (fK k))) off vs))else .bad
 |_=>.bad
def HF (s id:Nat)(i j:Int)(off:Nat)(vs:List SV):Ob→OR
 | .grid k l=>bif Nat.beq s (ae k)&&Nat.ble (off+sz vs) s then Ep k id i j l (pc k (gK (cellsOf k ((l.getD i.toNat []).getD j.toNat (fK k))) off vs))else .bad
 |_=>.bad
def rL (size:Nat)(h:List Ob):SV→Option (List SV)→OR
 | .ptr id off,some vs=>bif Nat.beq (sz vs) size then HD id off vs (an h id)else .bad
 | .rp s id i off,some vs=>bif Nat.beq (sz vs) size then HE s id i off vs (an h id)else .bad
 | .gp s id i j off,some vs=>bif Nat.beq (sz vs) size then HF s id i j off vs (an h id)else .bad
 |_,_=>.bad
def Er:Ob→Bool
 | .grid _ _=>true
 |_=>false
def LJ (k:Tag)(nx id rid:Nat)(i:Int)(l:List (List k.T)):Option (List k.T)→OR
 |some m=>.eff True True [(id,.dead),(rid,.dead),(nx,.grid k (l.set i.toNat m)),(id,.fwd (some nx))] .any
 |none=>.bad
def HG (k:Tag):Ob→Option (List k.T)
 | .row k' l=>if h:k'=k then some (h▸l)else none
 |_=>none
def Bl (nx:Nat)(h:List Ob)(id rid:Nat)(i:Int):Ob→OR
 | .grid k l=>LJ k nx id rid i l (HG k (an h rid))
 |_=>.bad
def rM (size nx:Nat)(h:List Ob):SV→SV→OR
 | .rp s id i off,.os rid=>bif Er (an h id)then(bif Nat.beq size 1&&Nat.beq s 1&&Nat.beq off 0&& !(Nat.beq id rid)then Bl nx h id rid i (an h id)else .bad)else rL size h (.rp s id i off) (pP (.os rid))
 |a,x=>rL size h a (pP x)
def LK:SV→OR
 | .ptr id off=>.val (.ptr id off)
 | .ep l off=>.val (.ep l off)
 | .rp a b c d=>.val (.rp a b c d)
 | .gp a b c d e=>.val (.gp a b c d e)
 | .fn f first caps=>.val (.fn f first caps)
 |_=>.bad
def FM:Option IntKind→SV→OR
 |some k,.v (.int _ n) =>.val (.v (.int k (k.wrap n)))
 |_,_=>.bad
def Es (nx:Nat):Option (List SV)→OR
 |some l=>.eff True True [(nx,.cells l)] (.ptr nx 0)
 |none=>.bad
def HH:Option (List SV)→OR
 |some l=>.val (.agg l)
 |none=>.bad
def LL (k:Tag):Option (List k.T)→OR
 |some xs=>.newr (.rs k xs)
 |none=>.bad
def lsS (n:Nat)(l:List SV):OR:=bif Nat.beq (sz l) n&&uW l then .newr (.ls l)else .bad
def bsT (k:Tag)(ti te:TI)(n:Nat):Option (List SV)→OR
 |some l=>bif Nat.beq te.size (ae k)&&ti.isSlice&&Nat.ble (n*te.size) 16777216&&Nat.beq (sz te.zero) te.size then LL k (r7 k te.size n l)else .bad
 |none=>.bad
def bsU (ti te:TI)(n:Nat):Option (List SV)→OR
 |some l=>bif Nat.beq te.size 1&&ti.isSlice&&Nat.ble (n*te.size) 16777216&&Nat.beq (sz te.zero) te.size then lsS n l else .bad
 |none=>.bad
def noG:Option (Nat×Bool)→Bool
 |none=>true
 |some _=>false
def Wq:Op→Bool
 | .call ⟨.value _,_,_⟩ =>true
 |_=>false
def Wr:Op→Bool
 | .call ⟨.builtin .append,_,_⟩ =>true
 |_=>false
def LM:List Oper→Bool
 | [] =>false
 |o::r=>Wq o.op||LM r
def I2:List Oper→Bool
 | [] =>false
 |o::r=>Wr o.op||I2 r
def Ws:Op→Bool
 | .call ⟨.builtin .clear,_,_⟩ =>true
 |_=>false
def LN:List Oper→Bool
 | [] =>false
 |o::r=>Ws o.op||LN r
def R7:Op→Bool
 | .slice .. =>true
 |_=>false
def HI:List Oper→Bool
 | [] =>false
 | [o] =>R7 o.op
 |_::r=>HI r
def I3:List Oper→List Nat
 | [] =>[]
 |o::r=>bif R7 o.op then o.dst.toList++I3 r else I3 r
def FN (ds:List Nat):List Operand→Bool
 | [] =>false
 | .tmp d::r=>ds.any (Nat.beq d) ||FN ds r
 |_::r=>FN ds r
def LO:Op→List Operand
 | .call ⟨.value _,args,_⟩ =>args.toList
 |_=>[]
def R8 (ds:List Nat):List Oper→Bool
 | [] =>false
 |o::r=>FN ds (LO o.op) ||R8 ds r
def FO (ops:List Oper):Bool:=I2 ops||LN ops||HI ops||R8 (I3 ops) ops
def Wt (ops:List Oper)(g:Option (Nat×Bool)):Option (Nat×Bool):=bif I2 ops&&LM ops then some (0,true)else g
def R9:List (Nat×Operand)→List Operand
 | [] =>[]
 |(_,x)::r=>x::R9 r
def LP:Op→List Operand
 | .build _ parts=>R9 parts.toList
 |_=>[]
def R_ (ds:List Nat):List Oper→Bool
 | [] =>false
 |o::r=>FN ds (LP o.op) ||R_ ds r
def Wu (t:TypeId):Op→Bool
 | .buildSlice t' _ _=>Nat.beq t t'
 |_=>false
def I4 (t:TypeId):List Oper→List Nat
 | [] =>[]
 |o::r=>bif Wu t o.op then o.dst.toList++I4 t r else I4 t r
def Q5:Bool:=true
def C1 (t:TypeId)(ops:List Oper)(g:Option (Nat×Bool)):Option (Nat×Bool):=bif Q5&&R_ (I4 t ops) ops then some (0,true)else Wt ops g
def Wv:SV→Bool
 | .os _=>true
 |_=>false
def osL:List SV→Bool
 | [] =>false
 |s::r=>Wv s||osL r
def osV:SV→Bool
 | .os _=>true
 | .agg l=>osL l
 |_=>false
def LQ:List (Nat×SV)→Bool
 | [] =>false
 |(_,s)::r=>osV s||LQ r
def bsG (ti te:TI)(n:Nat)(l:Option (List SV))(os:Bool):Option Tag→OR
 |some k=>bif os then bsU ti te n l else bsT k ti te n l
 |none=>bsU ti te n l
def Q6:List Kd→Bool
 | [.f] =>true
 |_=>false
def OP:Option Tag→Option Tag
 |some k=>bif Q6 (d_ k)then none else some k
 |none=>none
def bsS (ti te:TI)(n:Nat)(parts:List (Nat×SV)):OR:=
 bif Nat.beq n 0 then(bif ti.isSlice&&parts.isEmpty then .newr .e0 else .bad)
 else bsG ti te n (mc (fun i=>some (i*te.size,te.size)) (AC n te.zero) parts) (LQ parts) (OP te.tag)
def one {α:Type}:List α→Bool
 | [_] =>true
 |_=>false
def C2 (g:Option (Nat×Bool))(nx:Nat)(te:TI):OR→OR
 | .newr (.rs k l) =>bif(te.agg||one l)&&noG g then .eff True True [(nx,.row k l)] (.os nx)else .newr (.rs k l)
 |r=>r
def LR (i:Nat):SV→OR
 | .tup l=>un (nth l i)
 |_=>.bad
def yw (args:List SV):SV→OR
 | .fn g first caps=>.call g (first++args++caps)
 | .os id=>.yld id args
 |_=>.bad
def aJ:Nat:=140737488355328
def LS:Ob→OR
 | .row _ l=>.asm (l.length≤aJ) (.i l.length)
 | .grid _ l=>.asm (l.length≤aJ) (.i l.length)
 |_=>.bad
def OQ (i:Int):Ob→OR
 | .grid _ l=>.asm ((l.getD i.toNat []).length≤aJ) (.i (l.getD i.toNat []).length)
 |_=>.bad
def OS (m:Option Tag):Ob→OR
 | .mp _ _ l p=>bif m.isSome&&noE p then .val (.i l.length)else .bad
 |_=>.bad
def uo (ti:TI)(h:List Ob):List SV→OR
 | [.rs _ l] =>bif ti.isSlice then .asm (l.length≤aJ) (.i l.length)else .bad
 | [.v (.slice none 0 0)] =>bif ti.isSlice then .val (.i 0)else .bad
 | [.e0] =>bif ti.isSlice then .val (.i 0)else .bad
 | [.os id] =>bif ti.isSlice then LS (an h id)else OS ti.mkt (an h id)
 | [.gr id i] =>bif ti.isSlice then OQ i (an h id)else .bad
 | [.ls l] =>bif ti.isSlice then .val (.i (sz l))else .bad
 |_=>.bad
def Et:List SV→OR
 | [.v (.int k a),.v (.int _ b)] =>.val (.v (.int k (if b<a then b else a)))
 |_=>.bad
def Eu:List SV→OR
 | [.v (.int k a),.v (.int _ b)] =>.val (.v (.int k (if a<b then b else a)))
 |_=>.bad
def LU:SV→OR
 | .v (.iface t y) =>.pan (.iface t y)
 |_=>.bad
def Bm (t:TypeId):SV→OR
 | .v (.int k n) =>.val (.v (.iface t (.int k n)))
 |_=>.bad
def FP (fn:Fn)(first caps:List SV):OR:=
 match fn with
 | .func f=>.val (.fn f first caps)
 |_=>.bad
def dC:Nat:=140737488355328
def I5 (a:Tag):Option Tag→Bool
 |some b=>Nat.beq (yl a) (yl b)
 |none=>false
def yx (k:Tag)(k':Tag)(l:List k'.T):Option (List k.T):=if h:k'=k then some (h▸l)else none
def Kq (k:Tag):Ob→Option (List k.T)
 | .row k' l=>yx k k' l
 |_=>none
def OT (k:Tag)(s:Nat)(lo hi:Int):Ob→Option (List k.T)
 | .row k' l=>bif Nat.beq s (ae k')then yx k k' ((l.take hi.toNat).drop lo.toNat)else none
 |_=>none
def wc (k:Tag)(h:List Ob):SV→Option (List k.T)
 | .rs k' l=>yx k k' l
 | .v (.slice none 0 0) =>some []
 | .e0=>some []
 | .os id=>Kq k (an h id)
 | .vw s id lo hi=>OT k s lo hi (an h id)
 |_=>none
def LV (k:Tag)(nx bytes:Nat)(kill:List Up)(l:List k.T):Option (List k.T)→OR
 |some m=>.eff ((l++m).length*bytes≤dC) ((l++m).length≤aJ) (kill++[(nx,.row k (l++m))]) (.os nx)
 |none=>.bad
def uX (te:TI)(nx:Nat)(kill:List Up)(h:List Ob)(src:SV):Ob→OR
 | .row k l=>bif Nat.beq te.size (ae k)&&Nat.beq (sz te.zero) te.size&&Nat.ble 1 te.bytes then LV k nx te.bytes kill l (wc k h src)else .bad
 |_=>.bad
def Bn (k:Tag)(nx bytes id2:Nat)(kill:List Up)(l:List (List k.T)):Option (List k.T)→OR
 |some m=>.eff ((l++[m]).length*bytes≤dC) ((l++[m]).length≤aJ) (kill++[(id2,.dead),(nx,.grid k (l++[m]))]) (.os nx)
 |none=>.bad
def Ae (nx bytes:Nat)(h:List Ob)(id2:Nat)(kill:List Up):Ob→OR
 | .grid k l=>Bn k nx bytes id2 kill l (Kq k (an h id2))
 |_=>.bad
def LW (nx bytes id2:Nat):Ob→OR
 | .row k m=>Bn k nx bytes id2 [] [] (some m)
 |_=>.bad
def uY (te:TI)(nx:Nat)(h:List Ob)(src:SV):Option Tag→OR
 |some k=>uX te nx [] h src (.row k [])
 |none=>.bad
def LX (te:TI)(id:Nat):Ob→OR
 | .row k l=>bif Nat.beq te.size (ae k)&&Nat.beq (sz te.zero) te.size&&Nat.ble 1 te.bytes then .eff ((l++l).length*te.bytes≤dC) ((l++l).length≤aJ) [(id,.fz k l)] (.rs k (l++l))else .bad
 |_=>.bad
def nW (te:TI)(nx:Nat)(h:List Ob):List SV→OR
 | [.os id,.ls [.os id2]] =>bif Nat.beq te.size 1&&Nat.beq (sz te.zero) 1&&Nat.ble 1 te.bytes&& !(Nat.beq id id2)then Ae nx te.bytes h id2 [(id,.dead)] (an h id)else .bad
 | [.v (.slice none 0 0),.ls [.os id2]] =>bif Nat.beq te.size 1&&Nat.beq (sz te.zero) 1&&Nat.ble 1 te.bytes then LW nx te.bytes id2 (an h id2)else .bad
 | [.os id,.os id2] =>bif Nat.beq id id2 then LX te id (an h id)else uX te nx [(id,.dead)] h (.os id2) (an h id)
 | [.os id,src] =>uX te nx [(id,.dead)] h src (an h id)
 | [.v (.slice none 0 0),src] =>uY te nx h src te.tag
 | [.e0,src] =>uY te nx h src te.tag
 |_=>.bad
def Bo (k:Tag)(l:List k.T)(lo hi:Int):List k.T:=if hi.toNat≤lo.toNat then l else l.take lo.toNat++List.replicate (hi.toNat - lo.toNat) (fK k)++l.drop hi.toNat
def Sa (te:TI)(s id:Nat)(lo hi:Int):Ob→OR
 | .row k l=>bif Nat.beq s (ae k)&&I5 k te.tag then .eff True True [(id,.row k (Bo k l lo hi))] .any else .bad
 |_=>.bad
def xR (ti te:TI)(h:List Ob):List SV→OR
 | [.vw s id lo hi] =>bif ti.isSlice then Sa te s id lo hi (an h id)else .bad
 |_=>.bad
def mkT (nx:Nat)(n c:Int)(te:TI):Option Tag→OR
 |some k=>.eff (n=c∧0≤n∧n*te.bytes≤dC) (n≤aJ) [(nx,.row k (List.replicate n.toNat (fK k)))] (.os nx)
 |none=>.bad
def mkS (nx:Nat)(te:TI):SV→SV→OR
 | .v (.int .i64 n),.v (.int .i64 c) =>mkT nx n c te te.tag
 |_,_=>.bad
def LY:List SV→Bool
 | [.v (.slice none 0 0)] =>true
 |_=>false
def OU (nx:Nat)(n c:Int)(te:TI):Option Tag→OR
 |some k=>bif Nat.beq te.size 1&&LY te.zero&&Nat.ble 1 te.bytes then .eff (n=c∧0≤n∧n*te.bytes≤dC) (n≤aJ) [(nx,.grid k (List.replicate n.toNat []))] (.os nx)else .bad
 |none=>.bad
def C3 (nx:Nat)(te tr:TI):SV→SV→OR
 | .v (.int .i64 n),.v (.int .i64 c) =>OU nx n c te tr.tag
 |_,_=>.bad
def bnd (d:Int):Option SV→Option Int
 |none=>some d
 |some (.v (.int _ n)) =>some n
 |_=>none
def LZ (k:Tag)(l:List k.T):Option Int→Option Int→OR
 |some lo,some hi=>.chk (0≤lo∧lo≤hi∧hi≤(l.length:Int)) (.rs k ((l.take hi.toNat).drop lo.toNat))
 |_,_=>.bad
def OV (id nx:Nat)(k:Tag)(l:List k.T):Option Int→Option Int→OR
 |some lo,some hi=>.eff (0≤lo∧lo≤hi∧hi≤(l.length:Int)) True [(id,.dead),(nx,.row k ((l.take hi.toNat).drop lo.toNat))] (.os nx)
 |_,_=>.bad
def L1 (esz id nx:Nat)(lo hi:Option SV):Ob→OR
 | .row k l=>bif Nat.beq esz (ae k)then OV id nx k l (bnd 0 lo) (bnd l.length hi)else .bad
 |_=>.bad
def L2 (esz id n:Nat):Option Int→OR
 |some a=>.chk (0≤a∧a≤(n:Int)) (.vw esz id a n)
 |none=>.bad
def I6 (esz id:Nat)(lo:Option SV):Ob→OR
 | .row k l=>bif Nat.beq esz (ae k)then L2 esz id l.length (bnd 0 lo)else .bad
 |_=>.bad
def nH (ti:TI)(esz nx:Nat)(h:List Ob)(lo hi:Option SV)(vq:Bool):SV→OR
 | .rs k l=>bif ti.isSlice&&Nat.beq esz (ae k)then LZ k l (bnd 0 lo) (bnd l.length hi)else .bad
 | .os id=>bif ti.isSlice then(bif vq then I6 esz id lo (an h id)else L1 esz id nx lo hi (an h id))else .bad
 |_=>.bad
def Dx (ti:TI):Option SV→Option SV→SV→SV→OR
 |none,some (.v (.int .i64 0)),.v (.int .i64 0),.v (.slice none 0 0) =>bif ti.isSlice then .val (.v (.slice none 0 0))else .bad
 |_,_,_,_=>.bad
def Bp (kk vk:Tag)(l:List (kk.T×vk.T))(ok:Bool):Option kk.T→OR
 |some x=>bif ok then .val (.tup [svT vk (fZ kk vk l x),.b (I0 kk vk l x)])else .val (svT vk (fZ kk vk l x))
 |none=>.bad
def kh (a:Tag):Option Tag→Bool
 |some b=>Nat.beq (yl a) (yl b)
 |none=>false
def Dy {α:Type}:Option α→Bool
 |none=>true
 |some _=>false
def FQ (ti:TI)(key:SV)(ok:Bool):Ob→OR
 | .mp kk vk l pend=>bif kh kk ti.mkt&&kh vk ti.mvt&&(!ok||noE pend)then Bp kk vk l ok (unT kk key)else .bad
 |_=>.bad
def I7 (key:SV)(ok:Bool):Option Tag→Option Tag→OR
 |some kk,some vk=>Bp kk vk [] ok (unT kk key)
 |_,_=>.bad
def tz (ti:TI)(h:List Ob)(ok:Bool)(key:SV):SV→OR
 | .os id=>FQ ti key ok (an h id)
 | .rm kk vk l=>bif kh kk ti.mkt&&kh vk ti.mvt then Bp kk vk l ok (unT kk key)else .bad
 | .v (.map none) =>I7 key ok ti.mkt ti.mvt
 |_=>.bad
def Sb (id:Nat)(kk vk:Tag)(l:List (kk.T×vk.T)):Option kk.T→Option vk.T→OR
 |some x,some y=>.eff True True [(id,.mp kk vk (lR kk vk l x y) none)] .any
 |_,_=>.bad
def Sc (ti:TI)(id:Nat)(key v:SV):Ob→OR
 | .mp kk vk l p=>bif kh kk ti.mkt&&kh vk ti.mvt&&noE p then Sb id kk vk l (unT kk key) (unT vk v)else .bad
 |_=>.bad
def AD (ti:TI)(h:List Ob)(key v:SV):SV→OR
 | .os id=>Sc ti id key v (an h id)
 |_=>.bad
def Kr (id nx:Nat)(kk vk:Tag)(l:List (kk.T×vk.T)):Option kk.T→OR
 |some x=>.eff True True [(nx,.fwd none),(id,.mp kk vk l (some (nx,some x)))] (.tup [svT vk (fZ kk vk l x),.os nx])
 |none=>.bad
def Ks (ti:TI)(id nx:Nat)(key:SV):Ob→OR
 | .mp kk vk l p=>bif kh kk ti.mkt&&kh vk ti.mvt&&noE p then Kr id nx kk vk l (unT kk key)else .bad
 |_=>.bad
def xi (ti:TI)(nx:Nat)(h:List Ob)(key:SV):SV→OR
 | .os id=>Ks ti id nx key (an h id)
 |_=>.bad
def Sd (id:Nat)(kk vk:Tag)(l:List (kk.T×vk.T))(x:kk.T):Option vk.T→OR
 |some y=>.eff True True [(id,.mp kk vk (lR kk vk l x y) none)] .any
 |none=>.bad
def OW (ti:TI)(id n:Nat)(v:SV):Ob→OR
 | .mp kk vk l (some (n',some x)) =>bif kh kk ti.mkt&&kh vk ti.mvt&&Nat.beq n' n then Sd id kk vk l x (unT vk v)else .bad
 |_=>.bad
def Ev (ti:TI)(h:List Ob)(v:SV):SV→SV→OR
 | .os id,.os n=>OW ti id n v (an h id)
 |_,_=>.bad
def Se (id:Nat)(kk vk:Tag)(l:List (kk.T×vk.T)):Option kk.T→OR
 |some x=>.eff True True [(id,.mp kk vk (yn kk vk l x) none)] .any
 |none=>.bad
def Sf (ti:TI)(id:Nat)(key:SV):Ob→OR
 | .mp kk vk l p=>bif kh kk ti.mkt&&kh vk ti.mvt&&noE p then Se id kk vk l (unT kk key)else .bad
 |_=>.bad
def xS (ti:TI)(h:List Ob):List SV→OR
 | [.os id,key] =>Sf ti id key (an h id)
 |_=>.bad
def mmR (nx:Nat):Option Tag→Option Tag→OR
 |some kk,some vk=>.eff True True [(nx,.mp kk vk [] none)] (.os nx)
 |_,_=>.bad
def zsO (z:List SV):OR:=.val (.tup [.agg z,.b false])
def taS (t:TypeId)(ok:Bool)(ti:TI):SV→OR
 | .v (.iface t' y) =>bif ti.iface then .bad else bif Nat.beq t' t then(bif ok then .val (.tup [.v y,.b true])else .val (.v y))else .bad
 |_=>.bad
def OX (ti:TI)(nx id:Nat):Ob→OR
 | .mp kk vk l p=>bif kh kk ti.mkt&&kh vk ti.mvt&&noE p then .eff True True [(nx,.mi (some id) l.length (List.range l.length) none),(id,.mp kk vk l (some (nx,none)))] (.ptr nx 0)else .bad
 |_=>.bad
def Bq (ti:TI)(nx:Nat)(h:List Ob):SV→OR
 | .os id=>OX ti nx id (an h id)
 |_=>.bad
def L3:SV→OR
 | .ptr id 0=>.nxt id
 |_=>.bad
def L4 (id n j:Nat):Ob→OR
 | .mp kk vk l (some (it,none)) =>bif Nat.beq it id then .chk (n=l.length∧j<n) (.tup [svT kk (l.getD j (fK kk,fK vk)).1,svT vk (l.getD j (fK kk,fK vk)).2])else .bad
 |_=>.bad
def I8 (h:List Ob)(id:Nat):Ob→OR
 | .mi (some mid) n _ (some j) =>L4 id n j (an h mid)
 |_=>.bad
def Af (h:List Ob):SV→OR
 | .ptr id 0=>I8 h id (an h id)
 |_=>.bad
def opS (cx:Cx):Op→OR
 | .move x=>.val (val cx x)
 | .assign x=>.val (val cx x)
 | .pick c a b=>Bi a b (val cx c) (kU cx.ops cx.g c true (raw cx.st.t a)) (kU cx.ops cx.g c false (raw cx.st.t b))
 | .alloc t=>aC cx.ts t fun ti=>Es cx.nx (some ti.zero)
 | .box _ x=>Es cx.nx (pP (val cx x))
 | .build t parts=>aC cx.ts t fun ti=>
  bif ti.isArr then aC cx.ts ti.elem fun te=>HH (mc (fun i=>some (i*te.size,te.size)) ti.zero (gL cx parts.toList))
  else bif ti.agg then HH (mc (fun i=>(nth ti.fields i).map fun f=>(f.1,f.2.1)) ti.zero (gL cx parts.toList))
  else .bad
 | .buildSlice t n parts=>aC cx.ts t fun ti=>aC cx.ts ti.elem fun te=>C2 (C1 t cx.ops cx.g) cx.nx te (bsS ti te n (gL cx parts.toList))
 | .load t a=>aC cx.ts t fun ti=>qR ti cx.st.h (val cx a)
 | .store t a x=>aC cx.ts t fun ti=>rM ti.size cx.nx cx.st.h (val cx a) (val cx x)
 | .nilCheck x=>LK (val cx x)
 | .binOp op t x y _=>En cx.ts op t (val cx x) (val cx y)
 | .unOp op _ x=>unS op (val cx x)
 | .convert src dst x=>aC cx.ts src fun _=>aC cx.ts dst fun ti=>FM ti.int (val cx x)
 | .makeFunc fn first captured=>FP fn (cG cx first.toList) (cG cx captured.toList)
 | .fieldAddr t x f=>aC cx.ts t fun ti=>match nth ti.fields f with|some (o,n,_) =>bif Nat.ble 1 n then yu o (val cx x)else .bad|none=>.bad
 | .field t x f=>aC cx.ts t fun ti=>sF (nth ti.fields f) (yo (val cx x))
 | .indexAddr t x i=>aC cx.ts t fun ti=>aC cx.ts ti.elem fun te=>g7 ti te.size cx.st.h (val cx x) (val cx i)
 | .extract x i=>LR i (val cx x)
 | .panic x=>LU (val cx x)
 | .makeInterface t x=>aC cx.ts t fun ti=>bif ti.iface then .bad else Bm t (val cx x)
 | .makeSlice t n c=>aC cx.ts t fun ti=>aC cx.ts ti.elem fun te=>bif ti.isSlice then(bif te.isSlice then aC cx.ts te.elem fun tr=>C3 cx.nx te tr (val cx n) (val cx c)else mkS cx.nx te (val cx n) (val cx c))else .bad
 | .slice t x lo hi none=>aC cx.ts t fun ti=>aC cx.ts ti.elem fun te=>nH ti te.size cx.nx cx.st.h (pa cx lo) (pa cx hi) (Dy hi&&FO cx.ops) (val cx x)
 | .slice t x lo hi (some m) =>aC cx.ts t fun ti=>aC cx.ts ti.elem fun _=>Dx ti (pa cx lo) (pa cx hi) (val cx m) (val cx x)
 | .makeMap t none=>aC cx.ts t fun ti=>mmR cx.nx ti.mkt ti.mvt
 | .lookup t m k ok=>aC cx.ts t fun ti=>tz ti cx.st.h ok (val cx k) (val cx m)
 | .mapUpdate t m k v=>aC cx.ts t fun ti=>AD ti cx.st.h (val cx k) (val cx v) (val cx m)
 | .insert t m k v=>aC cx.ts t fun ti=>AD ti cx.st.h (val cx k) (val cx v) (val cx m)
 | .mapEntry t m k=>aC cx.ts t fun ti=>xi ti cx.nx cx.st.h (val cx k) (val cx m)
 | .entryStore t m s v=>aC cx.ts t fun ti=>Ev ti cx.st.h (val cx v) (val cx m) (val cx s)
 | .range t m=>aC cx.ts t fun ti=>Bq ti cx.nx cx.st.h (val cx m)
 | .next it false=>L3 (val cx it)
 | .entry it=>Af cx.st.h (val cx it)
 | .typeAssert x _ t ok=>aC cx.ts t fun ti=>taS t ok ti (val cx x)
 | .call ⟨.value f,args,_⟩ =>yw (cG cx args.toList) (val cx f)
 | .call ⟨.builtin .len,args,tys⟩ =>match tys.toList with| [t] =>aC cx.ts t fun ti=>uo ti cx.st.h (cG cx args.toList) |_=>.bad
 | .call ⟨.builtin .delete,args,tys⟩ =>match tys.toList with|t::_=>aC cx.ts t fun ti=>xS ti cx.st.h (cG cx args.toList) |_=>.bad
 | .call ⟨.builtin .clear,args,tys⟩ =>match tys.toList with| [t] =>aC cx.ts t fun ti=>aC cx.ts ti.elem fun te=>xR ti te cx.st.h (cG cx args.toList) |_=>.bad
 | .call ⟨.builtin .min,args,_⟩ =>Et (cG cx args.toList)
 | .call ⟨.builtin .max,args,_⟩ =>Eu (cG cx args.toList)
 | .call ⟨.builtin .append,args,tys⟩ =>match tys.toList with| [t,t2] =>aC cx.ts t fun ti=>aC cx.ts t2 fun ti2=>aC cx.ts ti.elem fun te=>bif ti.isSlice&&ti2.isSlice then nW te cx.nx cx.st.h (cG cx args.toList)else .bad|_=>.bad
 |_=>.bad
structure Fp where
 all:List Nat
 rd:List Nat
 wk:List Nat
 tc:List Nat
 wt:List Nat
def fL:SV→List Nat
 | .ptr id _=>[id]
 | .os id=>[id]
 | .rp _ id _ _=>[id]
 | .gr id _=>[id]
 | .gp _ id _ _ _=>[id]
 | .vw _ id _ _=>[id]
 |_=>[]
def Ew:SV→List Nat
 | .ls [.os id] =>[id]
 |s=>fL s
def pV:List SV→List Nat
 | [] =>[]
 |s::r=>Ew s++pV r
def L5:Ob→List Nat
 | .mi (some mid) _ _ _=>[mid]
 |_=>[]
def L6 (h:List Ob):SV→List Nat
 | .ptr id _=>L5 (an h id)
 |_=>[]
def fpO (cx:Cx):Op→List Nat×List Nat
 | .range _ m=>(fL (val cx m),[])
 | .entry it=>(fL (val cx it)++L6 cx.st.h (val cx it),[])
 | .load _ a=>(fL (val cx a),[])
 | .store _ a x=>(fL (val cx a)++fL (val cx x),[])
 | .indexAddr _ x _=>(fL (val cx x),[])
 | .slice _ x _ _ _=>(fL (val cx x),[])
 | .lookup _ m _ ok=>bif ok then(fL (val cx m),[])else([],fL (val cx m))
 | .mapUpdate _ m _ _=>(fL (val cx m),[])
 | .insert _ m _ _=>(fL (val cx m),[])
 | .mapEntry _ m _=>(fL (val cx m),[])
 | .entryStore _ m _ _=>(fL (val cx m),[])
 | .call ⟨.builtin .len,args,_⟩ =>(pV (cG cx args.toList),[])
 | .call ⟨.builtin .append,args,_⟩ =>(pV (cG cx args.toList),[])
 | .call ⟨.builtin .delete,args,_⟩ =>(pV (cG cx args.toList),[])
 | .call ⟨.builtin .clear,args,_⟩ =>(pV (cG cx args.toList),[])
 |_=>([],[])
def fa:List Up→List Nat
 | [] =>[]
 |(id,_)::r=>id::fa r
def tA:Op→Bool
 | .mapEntry .. =>true
 |_=>false
def fpU (o:Op)(x:List Nat×List Nat)(all:List Nat)(ups:List Up):Fp:=
 bif tA o then ⟨all,x.1,x.2,[],fa ups⟩else ⟨all,x.1,x.2,fa ups,[]⟩
def FR (as:List Nat):List Edge→Nat
 | [] =>0
 |e::r=>bif Region.binds .any e then Nat.lor (Nat.lor ((nth as e.on).getD 0) (Nat.shiftLeft 1 e.on)) (FR as r)else FR as r
def zv:List Oper→List Nat→List Nat
 | [],as=>as
 |o::r,as=>zv r (as++[FR as o.after.toList])
def sG (as:List Nat)(i j:Nat):Bool:=Nat.testBit ((nth as i).getD 0) j
def AE (n:Nat):List Nat→Bool
 | [] =>false
 |m::r=>bif Nat.beq m n then true else AE n r
def tB:List Nat→List Nat→Bool
 | [],_=>false
 |a::r,l=>bif AE a l then true else tB r l
def tC (i e:Fp):Bool:=
 tB i.all e.tc||tB i.all e.wt||tB i.rd e.tc||tB i.rd e.wt||tB i.wk e.tc||tB i.tc e.tc||tB i.tc e.wt||tB i.wt e.tc||tB i.wt e.wt
def FT (as:List Nat)(i:Nat)(x:Fp):Nat→List Fp→Bool
 |_,[] =>true
 |j,y::r=>(Nat.beq i j|| !(tC x y) ||(Nat.blt j i&&sG as i j) ||(Nat.blt i j&&sG as j i))&&FT as i x (j+1) r
def I9 (as:List Nat)(b:Nat)(all:List Fp):Nat→List Fp→Bool
 |_,[] =>true
 |i,x::r=>FT as i x b all&&I9 as b all (i+1) r
def Q7 (ops:List Oper)(b:Nat)(fps:List Fp):Bool:=I9 (zv ops []) b fps b fps
def Br:List Fp→Bool
 | [] =>true
 |x::r=>x.tc.isEmpty&&x.wt.isEmpty&&Br r
def sH (ops:List Oper)(b:Nat)(fps:List Fp):Prop:=bif Br fps then True else Q7 ops b fps=true
def Ey (as:List Nat)(c:Nat):Nat→List Oper→Bool
 |_,[] =>true
 |i,_::r=>(Nat.beq i c||(Nat.blt i c&&sG as c i) ||(Nat.blt c i&&sG as i c))&&Ey as c (i+1) r
def Bt (ops:List Oper)(c:Nat):Bool:=Ey (zv ops []) c 0 ops
def dx (ops:List Oper)(t:List (Nat×SV)):Nat→Nat×Bool→Prop
 |0,_=>True
 |n+1,(j,want) =>match (nth ops j).bind (·.dst)with
  |some d=>match lk d t with
   | .v (.bool x) =>x=want
   | .gd j' b (.v (.bool x)) =>dx ops t n (j',b)∧x=want
   |_=>True
  |none=>True
def gq (ops:List Oper)(t:List (Nat×SV)):Nat→Nat×Bool→Prop
 |0,_=>True
 |n+1,(j,want) =>match (nth ops j).bind (·.dst)with
  |some d=>match lk d t with
   | .v (.bool x) =>¬x=want
   | .gd j' b (.v (.bool x)) =>gq ops t n (j',b)∨¬x=want
   |_=>True
  |none=>True
def uZ (ops:List Oper)(t:List (Nat×SV)):Nat→Nat×Bool→Prop
 |0,_=>False
 |n+1,(j,want) =>match (nth ops j).bind (·.dst)with
  |some d=>match lk d t with
   | .v (.bool x) =>¬x=want
   | .gd j' b (.v (.bool x)) =>uZ ops t n (j',b)∨¬x=want
   |_=>False
  |none=>False
def OY (szt off:Nat)(i:Int):Ob→SV
 | .row k l=>bif Nat.beq szt (ae k)then .ep (cellsOf k (l.getD i.toNat (fK k))) off else .any
 |_=>.any
def I_ (szt off:Nat)(i j:Int):Ob→SV
 | .grid k l=>bif Nat.beq szt (ae k)then .ep (cellsOf k ((l.getD i.toNat []).getD j.toNat (fK k))) off else .any
 |_=>.any
def L7 (i:Int):Ob→SV
 | .grid k l=>.rs k (l.getD i.toNat [])
 |_=>.any
def frz:Ob→SV
 | .row k l=>.rs k l
 | .mp kk vk l p=>bif noE p then .rm kk vk l else .any
 | .grid k l=>FB k l
 | .fz k l=>.rs k l
 |_=>.any
def Kt (f:SV→SV)(off:Nat):Ob→SV
 | .cells l=>.ep (l.map f) off
 |_=>.any
def OZ (s:Nat)(lo hi:Int):Ob→SV
 | .row k l=>bif Nat.beq s (ae k)then .rs k ((l.take hi.toNat).drop lo.toNat)else .any
 |_=>.any
def fg (h:List Ob):Nat→SV→SV
 |_,.v x=>.v x
 |_,.rs k l=>.rs k l
 |_,.e0=>.e0
 |_,.rm k k2 l=>.rm k k2 l
 |_,.os id=>frz (an h id)
 |_,.vw s id lo hi=>OZ s lo hi (an h id)
 |_,.rp s id i off=>bif Nat.beq s 0 then .any else OY s off i (an h id)
 |_,.gp s id i j off=>bif Nat.beq s 0 then .any else I_ s off i j (an h id)
 |_,.gr id i=>L7 i (an h id)
 |n+1,.ptr id off=>Kt (fg h n) off (an h id)
 |n+1,.ep l off=>.ep (l.map (fg h n)) off
 |n+1,.ls l=>.ls (l.map (fg h n))
 |n+1,.agg l=>.agg (l.map (fg h n))
 |n+1,.tup l=>.tup (l.map (fg h n))
 |n+1,.fn f first caps=>.fn f (first.map (fg h n)) (caps.map (fg h n))
 |_,_=>.any
def Ku (f:SV→List Nat):Ob→List Nat
 | .cells l=>l.flatMap f
 |_=>[]
def iX (h:List Ob):Nat→SV→List Nat
 |_,.os id=>[id]
 |_,.rp _ id _ _=>[id]
 |_,.gp _ id _ _ _=>[id]
 |_,.gr id _=>[id]
 |_,.vw _ id _ _=>[id]
 |n+1,.ptr id _=>id::Ku (iX h n) (an h id)
 |n+1,.ep l _=>l.flatMap (iX h n)
 |n+1,.ls l=>l.flatMap (iX h n)
 |n+1,.agg l=>l.flatMap (iX h n)
 |n+1,.tup l=>l.flatMap (iX h n)
 |n+1,.fn _ first caps=>first.flatMap (iX h n)++caps.flatMap (iX h n)
 |_,_=>[]
def ungd:List (Nat×SV)→List (Nat×SV)
 | [] =>[]
 |(d,.gd ..)::r=>(d,.any)::ungd r
 |x::r=>x::ungd r
def cm:Nat→SV→Bool
 |_,.v _=>true
 |_,.rs _ _=>true
 |_,.rm _ _ _=>true
 |_,.e0=>true
 |_,.any=>true
 |n+1,.ep l _=>l.all (cm n)
 |n+1,.ls l=>l.all (cm n)
 |n+1,.agg l=>l.all (cm n)
 |n+1,.tup l=>l.all (cm n)
 |n+1,.fn _ l m=>l.all (cm n)&&m.all (cm n)
 |_,_=>false
def gY:Nat→SV→Bool
 |_,.v _=>true
 |_,.nw k _=>Nat.beq (rank k) 0
 |_,.nm k k2 _=>Nat.beq (rank k) 0&&Nat.beq (rank k2) 0
 |_,.ng k _=>Nat.beq (rank k) 0
 |n+1,.agg l=>l.all (gY n)
 |n+1,.tup l=>l.all (gY n)
 |_,_=>false
def aK:Nat→SV→List Ob
 |_,.nw k l=>[.row k l]
 |_,.nm k k2 l=>[.mp k k2 l none]
 |_,.ng k l=>[.grid k l]
 |n+1,.agg l=>l.flatMap (aK n)
 |n+1,.tup l=>l.flatMap (aK n)
 |_,_=>[]
def rN (f:Nat→SV→SV)(c:SV→Nat):Nat→List SV→List SV
 |_,[] =>[]
 |b,x::r=>f b x::rN f c (b+c x) r
def ib:Nat→Nat→SV→SV
 |_,b,.nw _ _=>.os b
 |_,b,.nm _ _ _=>.os b
 |_,b,.ng _ _=>.os b
 |n+1,b,.agg l=>.agg (rN (ib n) (fun s=>(aK n s).length) b l)
 |n+1,b,.tup l=>.tup (rN (ib n) (fun s=>(aK n s).length) b l)
 |_,_,s=>s
def fv:Nat→SV→List Nat
 |_,.ptr id _=>[id]
 |_,.os id=>[id]
 |_,.rp _ id _ _=>[id]
 |_,.gr id _=>[id]
 |_,.gp _ id _ _ _=>[id]
 |_,.vw _ id _ _=>[id]
 |n+1,.ep l _=>l.flatMap (fv n)
 |n+1,.ls l=>l.flatMap (fv n)
 |n+1,.agg l=>l.flatMap (fv n)
 |n+1,.tup l=>l.flatMap (fv n)
 |n+1,.fn _ l m=>l.flatMap (fv n)++m.flatMap (fv n)
 |n+1,.gd _ _ s=>fv n s
 |_,_=>[]
def L8:Ob→List Nat
 | .cells l=>l.flatMap (fv 3)
 |_=>[]
def reach (h:List Ob):Nat→List Nat→List Nat→List Nat
 |0,_,acc=>acc
 |_+1,[],acc=>acc
 |n+1,id::todo,acc=>bif AE id acc then reach h n todo acc else reach h n (L8 (an h id)++todo) (acc++[id])
def xj (id:Nat):List Nat→Option Nat
 | [] =>none
 |a::r=>bif Nat.beq a id then some 0 else(xj id r).map (· +1)
def yy (f:Nat→SV):Option Nat→SV
 |some k=>f k
 |none=>.any
def ren (m:Nat→Option Nat):Nat→SV→SV
 |_,.ptr id off=>yy (fun k=>.ptr k off) (m id)
 |_,.os id=>yy (fun k=>.os k) (m id)
 |_,.rp s id i off=>yy (fun k=>.rp s k i off) (m id)
 |_,.gr id i=>yy (fun k=>.gr k i) (m id)
 |_,.gp s id i j off=>yy (fun k=>.gp s k i j off) (m id)
 |_,.vw s id lo hi=>yy (fun k=>.vw s k lo hi) (m id)
 |n+1,.ep l o=>.ep (l.map (ren m n)) o
 |n+1,.ls l=>.ls (l.map (ren m n))
 |n+1,.agg l=>.agg (l.map (ren m n))
 |n+1,.tup l=>.tup (l.map (ren m n))
 |n+1,.fn f l l2=>.fn f (l.map (ren m n)) (l2.map (ren m n))
 |_,.any=>.any
 |_,.v x=>.v x
 |_,.e0=>.e0
 |_,.rs k l=>.rs k l
 |_,.rm k k2 l=>.rm k k2 l
 |_,_=>.any
def HJ (kk vk:Tag)(l:List (kk.T×vk.T)):Option kk.T→Option Nat→Ob
 |p,some k=>.mp kk vk l (some (k,p))
 |some _,none=>.fwd none
 |none,none=>.mp kk vk l none
def u0 (m:Nat→Option Nat):Ob→Ob
 | .cells l=>.cells (l.map (ren m 3))
 | .mi mid n left cur=>.mi (mid.bind m) n left cur
 | .fwd n=>.fwd (n.bind m)
 | .mp kk vk l (some (i,p)) =>HJ kk vk l p (m i)
 |o=>o
def inN (ids:List Nat)(i:Nat):Option Nat:=xj i ids
def sj (h:List Ob)(ids:List Nat):List Ob:=ids.map fun id=>u0 (inN ids) (an h id)
def r8 (ids:List Nat)(b:Nat)(k:Nat):Option Nat:=match nth ids k with|some id=>some id|none=>some (b+(k - ids.length))
def kp (ids:List Nat)(b:Nat)(k:Nat):Nat:=match nth ids k with|some id=>id|none=>b+(k - ids.length)
def ny (ids:List Nat)(b:Nat)(h:List Ob):Nat→List Ob→List Ob
 |_,[] =>h
 |k,o::r=>ny ids b (br h (kp ids b k) (u0 (r8 ids b) o)) (k+1) r
def HK (ids:List Nat)(d:Option Nat)(st:St)(K:St→Prop)(Z:Value→St→Prop):Rs→Prop
 | .ret s h=>K (St.put ⟨st.t,ny ids st.h.length st.h 0 h⟩ d (ren (r8 ids st.h.length) 3 s))
 | .pan x h=>Z x ⟨ungd st.t,ny ids st.h.length st.h 0 h⟩
def Kv (ids:List Nat)(g:Nat×Bool)(d:Option Nat)(st:St)(K:St→Prop)(Z:Value→St→Prop):Rs→Prop
 | .ret s h=>K (St.put ⟨st.t,ny ids st.h.length st.h 0 h⟩ d (.gd g.1 g.2 (ren (r8 ids st.h.length) 3 s)))
 | .pan x h=>Z x ⟨ungd st.t,ny ids st.h.length st.h 0 h⟩
def yz (ids:List Nat)(d:Option Nat)(st:St)(K:St→Prop)(Z:Value→St→Prop):Option HCon→Prop
 |some c=>c.pre∧∀ r,c.post r→HK ids d st K Z (c.res r)
 |none=>False
def xT (ids:List Nat)(ops:List Oper)(g:Nat×Bool)(d:Option Nat)(st:St)(K:St→Prop)(Z:Value→St→Prop):Option HCon→Prop
 |some c=>(dx ops st.t ops.length g→c.pre∧∀ r,c.post r→Kv ids g d st K Z (c.res r))∧(gq ops st.t ops.length g→K (st.put d (.gd g.1 g.2 .any)))
 |none=>uZ ops st.t ops.length g∧K (st.put d (.gd g.1 g.2 .any))
def wd (np:Bool)(ids:List Nat)(d:Option Nat)(st:St)(K:St→Prop)(Z:Value→St→Prop)(c:Option HCon):Option Con→Prop
 |some (.det p s) =>bif np||gY 3 s then(p∧K (St.put ⟨st.t,st.h++aK 3 s⟩ d (ib 3 st.h.length s)))else yz ids d st K Z c
 |some (.rel _ pre post out) =>pre∧(bif np then ∀ r,post r→K (St.put ⟨st.t,st.h++aK 3 (out r)⟩ d (ib 3 st.h.length (out r)))else False)
 |some (.may ok s x) =>bif np||gY 3 s then(ok=true→K (St.put ⟨st.t,st.h++aK 3 s⟩ d (ib 3 st.h.length s)))∧(ok=false→Z x ⟨ungd st.t,st.h⟩)else False
 |none=>yz ids d st K Z c
def Bu (np:Bool)(ids:List Nat)(ops:List Oper)(g:Nat×Bool)(d:Option Nat)(st:St)(K:St→Prop)(Z:Value→St→Prop)(c:Option HCon):Option Con→Prop
 |some (.det p s) =>(dx ops st.t ops.length g→p)∧(bif(np||gY 3 s)&&(aK 3 s).isEmpty then K (st.put d (.gd g.1 g.2 s))else False)
 |none=>xT ids ops g d st K Z c
 |_=>False
def HL (id:Nat)(d:Option Nat)(st:St)(K:St→Prop):Option YCon→Prop
 |some c=>c.pre∧∀ r,c.post r→K (St.put ⟨st.t,br st.h id (.ab (c.res r).2)⟩ d (.b (c.res r).1))
 |none=>False
def FU (id:Nat)(ops:List Oper)(g:Nat×Bool)(d:Option Nat)(st:St)(K:St→Prop):Option YCon→Prop
 |some c=>(dx ops st.t ops.length g→c.pre∧∀ r,c.post r→K (St.put ⟨st.t,br st.h id (.ab (c.res r).2)⟩ d (.gd g.1 g.2 (.b (c.res r).1))))∧(gq ops st.t ops.length g→K (st.put d (.gd g.1 g.2 .any)))
 |none=>False
def Ez (G:Cons)(args:List SV):Ob→Option YCon
 | .ab r=>G.y args r
 |_=>none
def L9 (id mid n:Nat)(left:List Nat)(d:Option Nat)(st:St)(next:St→Prop):Ob→Prop
 | .mp kk vk l (some (it,none)) =>(it=id∧n=l.length)∧(left=[]→next (st.put d (.tup [.v (.bool false)])))∧
   ∀ j,j∈left→next (St.put ⟨st.t,br st.h id (.mi (some mid) n (left.erase j) (some j))⟩ d (.tup [.v (.bool true),svT kk (l.getD j (fK kk,fK vk)).1,svT vk (l.getD j (fK kk,fK vk)).2]))
 |_=>False
def O0 (id:Nat)(d:Option Nat)(st:St)(next:St→Prop):Ob→Prop
 | .mi (some mid) n left _=>L9 id mid n left d st next (an st.h mid)
 |_=>False
def mf (G:Cons)(d:Option Nat)(st:St)(next:St→Prop)(Z:Value→St→Prop):OR→Prop
 | .val s=>next (st.put d s)
 | .chk c s=>c∧next (st.put d s)
 | .asm c s=>c→next (st.put d s)
 | .newr s=>next (st.put d s)
 | .eff c a ups s=>c∧(a→next (St.put ⟨st.t,aU st.h ups⟩ d s))
 | .call f args=>wd (args.all (cm 3)) (reach st.h 64 (args.flatMap (fv 3)) []) d st next Z (G.o f (args.map (ren (inN (reach st.h 64 (args.flatMap (fv 3)) [])) 6)) (sj st.h (reach st.h 64 (args.flatMap (fv 3)) []))) (G.p f (args.map (fg st.h 6)))
 | .yld id args=>bif args.all (cm 3)then HL id d st next (Ez G args (an st.h id))else False
 | .nxt id=>O0 id d st next (an st.h id)
 | .amb p=>∀ b,p b→next (st.put d (.v (.bool b)))
 | .pan x=>Z x ⟨ungd st.t,st.h⟩
 | .bad=>False
def stepG (G:Cons)(ops:List Oper)(g:Nat×Bool)(d:Option Nat)(st:St)(next:St→Prop)(Z:Value→St→Prop):OR→Prop
 | .val s=>next (st.put d (.gd g.1 g.2 s))
 | .chk c s=>(dx ops st.t ops.length g→c)∧next (st.put d (.gd g.1 g.2 s))
 | .asm _ s=>next (st.put d (.gd g.1 g.2 s))
 | .newr s=>next (st.put d (.gd g.1 g.2 s))
 | .eff c a ups s=>(dx ops st.t ops.length g→c∧(a→next (St.put ⟨st.t,aU st.h ups⟩ d (.gd g.1 g.2 s))))∧(gq ops st.t ops.length g→next (st.put d (.gd g.1 g.2 .any)))
 | .call f args=>Bu (args.all (cm 3)) (reach st.h 64 (args.flatMap (fv 3)) []) ops g d st next Z (G.o f (args.map (ren (inN (reach st.h 64 (args.flatMap (fv 3)) [])) 6)) (sj st.h (reach st.h 64 (args.flatMap (fv 3)) []))) (G.p f (args.map (fg st.h 6)))
 | .yld id args=>bif args.all (cm 3)then FU id ops g d st next (Ez G args (an st.h id))else False
 | .bad=>uZ ops st.t ops.length g∧next (st.put d (.gd g.1 g.2 .any))
 | .nxt _=>False
 | .amb _=>False
 | .pan _=>False
def iY (ts:Tis)(G:Cons)(ops:List Oper):List Oper→St→(St→Prop)→(Value→St→Prop)→Prop
 | [],st,K,_=>K st
 |o::rest,st,K,Z=>match o.guard with
  |none=>mf G o.dst st (fun st'=>iY ts G ops rest st' K Z) Z (opS ⟨ts,ops,none,st,st.h.length⟩ o.op)
  |some g=>stepG G ops g o.dst st (fun st'=>iY ts G ops rest st' K Z) Z (opS ⟨ts,ops,some g,st,st.h.length⟩ o.op)
structure Dr where
 c:Prop
 a:Prop
 s:SV
 ups:List Up
 all:List Nat
def drR (np:Bool)(rd:List Nat)(nx:Nat)(p:Prop)(s:SV):List Ob→Option Dr
 | [] =>bif np||gY 3 s then some ⟨p,True,s,[],rd⟩else none
 | [ob] =>bif np||gY 3 s then some ⟨p,True,ib 3 nx s,[(nx,ob)],rd⟩else none
 |_=>none
def drC (np:Bool)(rd:List Nat)(nx:Nat):Option Con→Option Dr
 |some (.det p s) =>drR np rd nx p s (aK 3 s)
 |_=>none
def jC (G:Cons)(h:List Ob)(nx:Nat):OR→Option Dr
 | .val s=>some ⟨True,True,s,[],[]⟩
 | .chk c s=>some ⟨c,True,s,[],[]⟩
 | .asm c s=>some ⟨True,c,s,[],[]⟩
 | .newr s=>some ⟨True,True,s,[],[]⟩
 | .eff c a ups s=>some ⟨c,a,s,ups,[]⟩
 | .call f args=>drC (args.all (cm 3)) (args.flatMap (iX h 6)) nx (G.p f (args.map (fg h 6)))
 | .bad=>some ⟨False,True,.any,[],[]⟩
 |_=>none
def drN (d:Option Nat)(st:St)(next:List Nat→List Up→St→Prop)(r:Dr):Prop:=r.c∧(r.a→next r.all r.ups (St.put ⟨st.t,aU st.h r.ups⟩ d r.s))
def drG (ops:List Oper)(g:Nat×Bool)(d:Option Nat)(st:St)(next:List Nat→List Up→St→Prop)(r:Dr):Prop:=
 bif r.ups.isEmpty then(dx ops st.t ops.length g→r.c)∧next r.all [] (st.put d (.gd g.1 g.2 r.s))
 else ¬ (dx ops st.t ops.length g∧gq ops st.t ops.length g)∧(dx ops st.t ops.length g→r.c∧(r.a→next r.all r.ups (St.put ⟨st.t,aU st.h r.ups⟩ d (.gd g.1 g.2 r.s))))∧(gq ops st.t ops.length g→next r.all [] (st.put d (.gd g.1 g.2 r.s)))
def xU (d:Option Nat)(st:St)(next:List Nat→List Up→St→Prop)(cutp:Prop):Option Dr→Prop
 |some r=>drN d st next r
 |none=>cutp
def we (ops:List Oper)(g:Nat×Bool)(d:Option Nat)(st:St)(next:List Nat→List Up→St→Prop)(cutp:Prop):Option Dr→Prop
 |some r=>drG ops g d st next r
 |none=>cutp
def jH (ts:Tis)(G:Cons)(ops:List Oper)(K:St→Prop)(Z:Value→St→Prop):List Oper→(i b:Nat)→List Fp→St→Prop
 | [],_,b,fps,st=>sH ops b fps∧K st
 |o::rest,i,b,fps,st=>match o.guard with
  |none=>xU o.dst st (fun all ups st'=>jH ts G ops K Z rest (i+1) b (fps++[fpU o.op (fpO ⟨ts,ops,none,st,st.h.length⟩ o.op) all ups]) st')
    (sH ops b fps∧Bt ops i=true∧mf G o.dst st (fun st'=>jH ts G ops K Z rest (i+1) (i+1) [] st') Z (opS ⟨ts,ops,none,st,st.h.length⟩ o.op))
    (jC G st.h st.h.length (opS ⟨ts,ops,none,st,st.h.length⟩ o.op))
  |some g=>we ops g o.dst st (fun all ups st'=>jH ts G ops K Z rest (i+1) b (fps++[fpU o.op (fpO ⟨ts,ops,some g,st,st.h.length⟩ o.op) all ups]) st')
    (sH ops b fps∧Bt ops i=true∧stepG G ops g o.dst st (fun st'=>jH ts G ops K Z rest (i+1) (i+1) [] st') Z (opS ⟨ts,ops,some g,st,st.h.length⟩ o.op))
    (jC G st.h st.h.length (opS ⟨ts,ops,some g,st,st.h.length⟩ o.op))
def Sg (id:Nat):Ob→SV
 | .fwd (some n) =>.os n
 |_=>.os id
def L_ (h:List Ob):SV→SV
 | .os id=>Sg id (an h id)
 |s=>s
def HM (h:List Ob):List (Nat×SV)→List (Nat×SV)
 | [] =>[]
 |(d,s)::r=>(d,L_ h s)::HM h r
def Ja:Ob→Bool
 | .fwd (some _) =>true
 |_=>false
def lz:List Ob→Bool
 | [] =>false
 |o::r=>Ja o||lz r
def Sh:Ob→Ob
 | .fwd _=>.dead
 |o=>o
def xp:List Ob→List Ob
 | [] =>[]
 |o::r=>Sh o::xp r
def cleanF (st:St):St:=bif lz st.h then ⟨HM st.h st.t,xp st.h⟩else st
def wg (ops:List Oper)(st:St):St:=cleanF (bif ops.any (·.guard.isSome)then ⟨ungd st.t,st.h⟩else st)
inductive Ex where
 |normal
 |exit (id:Nat)
 |ret
 |pan (x:Value)
def Ex.then (K:St→Prop)(Q:Ex→St→Prop):Ex→St→Prop
 | .normal,st=>K st
 |e,st=>Q e st
def Ex.block (id:Nat)(Q:Ex→St→Prop):Ex→St→Prop
 | .exit j,st=>bif Nat.beq j id then Q .normal st else Q (.exit j) st
 |e,st=>Q e st
def xq (x y:Prop):SV→Prop
 | .v (.bool b) =>(b=true→x)∧(b=false→y)
 |_=>False
structure LCon where
 α:Type
 pre:Prop
 post:α→Prop
 ex:α→Ex
 out:α→St
abbrev uq:=Nat→St→Option LCon
def sI (Q:Ex→St→Prop):Option LCon→Prop
 |some c=>c.pre∧∀ r,c.post r→Q (c.ex r) (c.out r)
 |none=>False
def Ma:Operand→Nat
 | .tmp n=>n+1000000
 |_=>0
def subJ (t:List (Nat×SV)):List (Nat×SV)→Prop
 | [] =>True
 |(n,s)::r=>lk n t=s∧subJ t r
def inJ (d:St):Ex→St→Prop
 | .normal,st=>st.h=d.h∧subJ st.t d.t
 |_,_=>False
def Mb (x y:(Ex→St→Prop)→Prop)(Q:Ex→St→Prop)(s:SV)(c:LCon):Prop:=
 xq (x fun e st=>∃ r,c.post r∧inJ (c.out r) e st) (y fun e st=>∃ r,c.post r∧inJ (c.out r) e st) s∧∀ r,c.post r→Q .normal (c.out r)
def Bv (x y:(Ex→St→Prop)→Prop)(Q:Ex→St→Prop)(s:SV):Option LCon→Prop
 |none=>xq (x Q) (y Q) s
 |some c=>Mb x y Q s c
def JC (d:St):LCon:=⟨Unit,True,fun _=>True,fun _=>.normal,fun _=>d⟩
def Ww (c:LCon)(Q:Ex→St→Prop):Ex→St→Prop
 | .normal,st=>∃ r,c.post r∧inJ (c.out r) .normal st
 |e,st=>Q e st
def inC (d:St)(Q:Ex→St→Prop):Ex→St→Prop
 | .normal,st=>inJ d .normal st
 |e,st=>Q e st
def cutL (x:(Ex→St→Prop)→Prop)(Q:Ex→St→Prop)(c:LCon):Prop:=x (Ww c Q)∧∀ r,c.post r→Q .normal (c.out r)
def Bw (x:(Ex→St→Prop)→Prop)(Q:Ex→St→Prop):Option LCon→Prop
 |none=>x Q
 |some c=>cutL x Q c
def Ag (ts:Tis)(G:Cons)(ops:Array Oper)(d:Bool)(st:St)(Q:Ex→St→Prop):Prop:=
 bif d then jH ts G ops.toList (fun st'=>Q .normal (wg ops.toList st')) (fun x st'=>Q (.pan x) st') ops.toList 0 0 [] st
   else iY ts G ops.toList ops.toList st (fun st'=>Q .normal (wg ops.toList st')) (fun x st'=>Q (.pan x) st')
def exec (ts:Tis)(G:Cons)(L:uq):Code→St→(Ex→St→Prop)→Prop
 | .skip,st,Q=>Q .normal st
 | .region id ops d,st,Q=>Bw (Ag ts G ops d st) Q (L (id+2000000) st)
 | .seq a b,st,Q=>exec ts G L a st (Ex.then (fun st'=>exec ts G L b st' Q) Q)
 | .cond c x y,st,Q=>Bv (exec ts G L x st) (exec ts G L y st) Q (raw st.t c) (L (Ma c) st)
 | .block id (.loop _),st,Q=>sI Q (L id st)
 | .block id (.rangeFunc ..),st,Q=>sI Q (L id st)
 | .block id c,st,Q=>exec ts G L c st (Ex.block id Q)
 | .exit id,st,Q=>Q (.exit id) st
 | .ret,st,Q=>Q .ret st
 | .scope c,st,Q=>exec ts G L c st Q
 | .label _,st,Q=>Q .normal st
 |_,_,_=>False
def O1:OR→Option SV
 | .val s=>some s
 |_=>none
def Kw (ts:Tis)(st:St):ResultVar→Option SV
 | .tmp n=>some (lk n st.t)
 | .cell q t=>O1 (aC ts t fun ti=>qR ti st.h (lk q st.t))
def FV:Option SV→Option (List SV)→Option (List SV)
 |some s,some l=>some (s::l)
 |_,_=>none
def jI (ts:Tis)(st:St):List ResultVar→Option (List SV)
 | [] =>some []
 |x::r=>FV (Kw ts st x) (jI ts st r)
def kV:Option (List SV)→Option SV
 |some [s] =>some s
 |some l=>some (.tup l)
 |none=>none
def Wx (h:List Ob):Option SV→Option SV
 |some s=>some (fg h 4 s)
 |none=>none
def wh (rs:List ResultVar)(ts:Tis)(st:St):Option SV:=Wx st.h (kV (jI ts st rs))
def wi:Ob→SV
 | .row k l=>.nw k l
 | .mp k k2 l none=>.nm k k2 l
 | .grid k l=>.ng k l
 |_=>.any
def xr (h:List Ob):Nat→SV→SV
 |_,.os id=>wi (an h id)
 |n+1,.agg l=>.agg (l.map (xr h n))
 |n+1,.tup l=>.tup (l.map (xr h n))
 |_,.v x=>.v x
 |_,.rs k l=>.rs k l
 |_,.rm k k2 l=>.rm k k2 l
 |_,.e0=>.e0
 |n,s=>bif cm n s then s else .any
def u4:Nat→SV→List Nat
 |_,.os id=>[id]
 |n+1,.agg l=>l.flatMap (u4 n)
 |n+1,.tup l=>l.flatMap (u4 n)
 |_,_=>[]
def uniq:List Nat→Bool
 | [] =>true
 |a::r=>!(AE a r)&&uniq r
def Ah (h:List Ob)(s:SV):Option SV:=bif uniq (u4 3 s)&&(u4 3 s).all (fun i=>Nat.blt i h.length)then some (xr h 3 s)else none
def Q8 (h:List Ob):Option SV→Option SV
 |some s=>Ah h s
 |none=>none
def Kx (rs:List ResultVar)(ts:Tis)(st:St):Option SV:=Q8 st.h (kV (jI ts st rs))
def xV (m:Bool)(rs:List ResultVar)(ts:Tis)(st:St):Option SV:=bif m then Kx rs ts st else wh rs ts st
def AT (ops:List Oper)(i:Nat)(o:Oper):Bool:=
 match o.guard with
 |none=>true
 |some (j,_) =>Nat.blt j i&&(match (nth ops j).bind (·.dst)with
  |some d=>(List.range ops.length).all fun k=>Nat.beq k j||(match (nth ops k).bind (·.dst)with|some e=>!(Nat.beq d e) |none=>true)
  |none=>false)
def Mc (N:Nat)(ops:List Oper):Bool:=
 (List.range ops.length).all fun i=>match nth ops i with
  |some o=>(match o.dst with|some d=>Nat.blt d N|none=>true)&&AT ops i o
  |none=>true
def pZ (o:Oper)(k:Nat):Bool:=o.after.toList.any fun e=>Nat.beq e.on k&&Region.binds .any e
def HN (ops:Array Oper):Bool:=
 (List.range ops.size).all fun i=>match nth ops.toList i with
  |some o=>
   (o.after.toList.all fun e=>!(Region.binds .any e) ||Nat.blt e.on i)&&
   (List.range ops.size).all fun k=>match nth ops.toList k with
    |some q=>match q.dst with
     |some d=>(Nat.beq k i|| !(o.dst==some d))&&(!((o.looksAt ops).contains d) ||Nat.beq k i||(Nat.blt k i&&pZ o k) ||(Nat.blt i k&&pZ q i))
     |none=>true
    |none=>true
  |none=>true
def cg (N:Nat):Code→Bool
 | .region _ ops d=>Mc N ops.toList&&(!d||HN ops)
 | .seq a b=>cg N a&&cg N b
 | .cond _ a b=>cg N a&&cg N b
 | .block _ c=>cg N c
 | .loop c=>cg N c
 | .scope c=>cg N c
 | .rangeFunc _ _ a b=>cg N a&&cg N b
 |_=>true
def nA:Nat→Nat→SV→Bool
 |_,_,.v _=>true
 |_,_,.rs _ _=>true
 |_,_,.rm _ _ _=>true
 |_,_,.any=>true
 |_,_,.e0=>true
 |_,n,.ptr id _=>Nat.blt id n
 |_,n,.os id=>Nat.blt id n
 |_,n,.rp _ id _ _=>Nat.blt id n
 |_,n,.gr id _=>Nat.blt id n
 |_,n,.gp _ id _ _ _=>Nat.blt id n
 |_,n,.vw _ id _ _=>Nat.blt id n
 |f+1,n,.ep l _=>l.all (nA f n)
 |f+1,n,.ls l=>l.all (nA f n)
 |f+1,n,.agg l=>l.all (nA f n)
 |f+1,n,.tup l=>l.all (nA f n)
 |f+1,n,.fn _ l m=>l.all (nA f n)&&m.all (nA f n)
 |_,_,_=>false
def Ky (m:Nat→Option Nat)(n:Nat)(t:List (Nat×SV)):List (Nat×SV)→Prop
 | [] =>True
 |(i,s)::r=>(lk i t=ren m 5 s∧nA 5 n s=true)∧Ky m n t r
def cN:Ob→Bool
 | .dead=>true
 |_=>false
def vE (n:Nat):Ob→Bool
 | .cells l=>l.all (nA 3 n)
 | .mi (some i) _ _ _=>Nat.blt i n
 | .fwd (some i) =>Nat.blt i n
 | .mp _ _ _ (some (i,_)) =>Nat.blt i n
 |_=>true
def unp {κ:Type}:Option (Nat×Option κ)→Option (Nat×Option κ)
 |some (_,none) =>none
 |p=>p
def FW:SV→Bool
 | .any=>true
 |_=>false
def wkL:List SV→List SV→List SV
 |a::r,x::s=>(bif FW a then .any else x)::wkL r s
 |_,s=>s
def Bx:Ob→Ob→Ob
 | .mp _ _ _ none,.mp kk vk l p=>.mp kk vk l (unp p)
 | .cells a,.cells l=>.cells (wkL a l)
 |_,o=>o
def EA (m:Nat→Option Nat)(n:Nat)(h:List Ob)(j:Nat)(o:Ob):Prop:=bif cN o then True else Bx o (an h j)=u0 m o∧vE n o=true
def C4 (m:Nat→Option Nat)(n:Nat)(h:List Ob):List Nat→List Ob→Prop
 | [],[] =>True
 |j::js,o::r=>EA m n h j o∧C4 m n h js r
 |_,_=>False
def na:List Nat→List Ob→List Nat
 |j::js,o::r=>bif cN o then na js r else j::na js r
 |_,_=>[]
def xW:Nat→List Nat→Nat→Bool
 |_,[],_=>true
 |i,j::js,n=>(Nat.beq i j||Nat.ble n i)&&xW (i+1) js n
def AF (js:List Nat)(i:Nat):Option Nat:=nth js i
def Sub (js:List Nat)(n0:Nat)(st st2:St):Prop:=
 (uniq (na js st2.h)=true∧xW 0 js n0=true∧js.all (fun j=>Nat.blt j st.h.length)=true)∧Ky (AF js) st2.h.length st.t st2.t∧C4 (AF js) st2.h.length st.h js st2.h
def u5 {σ:Type}(D:σ→St)(I:σ→Prop)(m:σ→Nat)(n0:Nat)(x:σ)(id:Nat)(Q:Ex→St→Prop):Ex→St→Prop
 | .normal,st=>∃ y js,I y∧m y<m x∧n0≤(D y).h.length∧Sub js n0 st (D y)
 | .exit j,st=>bif Nat.beq j id then Q .normal st else Q (.exit j) st
 | .ret,st=>Q .ret st
 | .pan x,st=>Q (.pan x) st
def mg:Nat→List SV→List (Nat×SV)
 |_,[] =>[]
 |n,s::r=>(n,s)::mg (n+1) r
def ew (post:SV→Prop):Option SV→Prop
 |some s=>post s
 |none=>False
def FX (m:Bool)(rs:List ResultVar)(ts:Tis)(post:SV→Prop)(pp:Value→Prop):Ex→St→Prop
 | .exit _,_=>False
 | .normal,st=>ew post (xV m rs ts st)
 | .ret,st=>ew post (xV m rs ts st)
 | .pan x,_=>pp x
def yA (n0:Nat)(C:HCon):Option SV→List Ob→Prop
 |some s,h=>∃ r s' h' js,C.post r∧C.res r=.ret s' h'∧n0≤h'.length∧Sub js n0 ⟨[(0,s)],h⟩ ⟨[(0,s')],h'⟩
 |none,_=>False
def FY (n0:Nat)(rs:List ResultVar)(ts:Tis)(C:HCon):Ex→St→Prop
 | .exit _,_=>False
 | .normal,st=>yA n0 C (kV (jI ts st rs)) st.h
 | .ret,st=>yA n0 C (kV (jI ts st rs)) st.h
 | .pan x,st=>∃ r h' js,C.post r∧C.res r=.pan x h'∧n0≤h'.length∧Sub js n0 ⟨[],st.h⟩ ⟨[],h'⟩
structure Hd where
 p:Option Nat:=none
 v:Value:=undef
 vs:List Value:=[]
 bs:List Nat:=[]
abbrev Own:=Nat→Option Hd
def bS (F:Nat→Prop)(own:Own)(b:Nat):Prop:=F b∨∃ id hd,own id=some hd∧b∈hd.bs
def cj:Own:=fun _=>none
def Hd.like (a b:Hd):Prop:=b.p=a.p∧b.v=a.v∧b.vs=a.vs
theorem Hd.like.refl (a:Hd):a.like a:=⟨rfl,rfl,rfl⟩
theorem Hd.like.trans {a b c:Hd}(h:a.like b)(h':b.like c):a.like c:=⟨h'.1.trans h.1,h'.2.1.trans h.2.1,h'.2.2.trans h.2.2⟩
def qS:Value→Bool
 | .agg _=>false
 | .tuple _=>false
 |_=>true
theorem By {v:Value}(h:qS v=true):v.cells= #[v]:=by cases v <;>first|rfl|simp[qS]at h
theorem nc {v:Value}(h:qS v=true):v.oneCell'=true:=by cases v <;>first|rfl|simp[qS]at h
def Si (x:Value)(sz:Nat)(lo hi:Int)(a:Option Addr):Prop:=hi.toNat≤lo.toNat∨∃ b o n cap,x=.slice (some ⟨b,o,none⟩) n cap∧hi.toNat≤n∧a=some ⟨b,o+lo.toNat*sz,none⟩
inductive Rel (F:Nat→Prop)(own:Own)(w:World):SV→Value→Prop where
 |any (v:Value):Rel F own w .any v
 |v (x:Value):Rel F own w (.v x) x
 |ptr {id off b:Nat} {hd:Hd}:own id=some hd→hd.p=some b→Rel F own w (.ptr id off) (.pointer (some ⟨b,off,none⟩))
 |os {id:Nat} {hd:Hd}:own id=some hd→qS hd.v=true→Rel F own w (.os id) hd.v
 |e0 {a:Option Addr}:Rel F own w .e0 (.slice a 0 0)
 |rp {sz id off n cap b o:Nat} {i:Int} {hd:Hd}:own id=some hd→hd.v=.slice (some ⟨b,o,none⟩) n cap→i.toNat<n→Rel F own w (.rp sz id i off) (.pointer (some ⟨b,o+i.toNat*sz+off,none⟩))
 |gr {id:Nat} {i:Int} {v:Value} {hd:Hd}:own id=some hd→hd.vs[i.toNat]? =some v→qS v=true→Rel F own w (.gr id i) v
 |gp {sz id off n cap b o:Nat} {i j:Int} {hd:Hd}:own id=some hd→hd.vs[i.toNat]? =some (.slice (some ⟨b,o,none⟩) n cap)→j.toNat<n→Rel F own w (.gp sz id i j off) (.pointer (some ⟨b,o+j.toNat*sz+off,none⟩))
 |vw {sz id cap:Nat} {lo hi:Int} {hd:Hd} {a:Option Addr}:own id=some hd→Si hd.v sz lo hi a→hi.toNat - lo.toNat≤cap→Rel F own w (.vw sz id lo hi) (.slice a (hi.toNat - lo.toNat) cap)
 |ep {cells:List SV} {off b o:Nat} (c:Nat→Value):
   (∀ j s,cells[j]? =some s→¬bS F own b∧w.cell? ⟨b,o+j,none⟩=some (c j))→(∀ j s,cells[j]? =some s→Rel F own w s (c j))→
   Rel F own w (.ep cells off) (.pointer (some ⟨b,o+off,none⟩))
 |rs {k:Tag} {l:List k.T} {b o cap:Nat} (c:Nat→Nat→Value):l.length≤cap→l.length≤aJ→
   (∀ (i:Nat) (x:k.T),l[i]? =some x→∀ (j:Nat) (s:SV),(cellsOf k x)[j]? =some s→¬bS F own b∧w.cell? ⟨b,o+i*ae k+j,none⟩=some (c i j))→
   (∀ (i:Nat) (x:k.T),l[i]? =some x→∀ (j:Nat) (s:SV),(cellsOf k x)[j]? =some s→Rel F own w s (c i j))→
   Rel F own w (.rs k l) (.slice (some ⟨b,o,none⟩) l.length cap)
 |rs0 {k:Tag} {a:Option Addr} {cap:Nat}:Rel F own w (.rs k []) (.slice a 0 cap)
 |ls {l:List SV} {b o cap:Nat} (c:Nat→Value):l.length≤cap→
   (∀ j s,l[j]? =some s→¬bS F own b∧w.cell? ⟨b,o+j,none⟩=some (c j))→(∀ j s,l[j]? =some s→Rel F own w s (c j))→
   Rel F own w (.ls l) (.slice (some ⟨b,o,none⟩) l.length cap)
 |rm {kk vk:Tag} {l:List (kk.T×vk.T)} {b:Nat} (ck cv:Nat→Value) (es:Array MapEntry) (clock:Nat):¬bS F own b→w.heap[b]? =some (.map es clock)→es.size=l.length→
   (∀ (i:Nat) (x:kk.T×vk.T),l[i]? =some x→∃ n,es[i]? =some ⟨ck i,cv i,n⟩)→
   (∀ (i:Nat) (x:kk.T×vk.T),l[i]? =some x→Rel F own w (svT kk x.1) (ck i))→(∀ (i:Nat) (x:kk.T×vk.T),l[i]? =some x→Rel F own w (svT vk x.2) (cv i))→
   Rel F own w (.rm kk vk l) (.map (some b))
 |rm0 {kk vk:Tag}:Rel F own w (.rm kk vk []) (.map none)
 |agg {l:List SV} {vs:Array Value}:vs.size=l.length→(∀ (j:Nat) (s:SV),l[j]? =some s→Rel F own w s (vs.getD j undef))→Rel F own w (.agg l) (.agg vs)
 |tup {l:List SV} {vs:Array Value}:vs.size=l.length→(∀ (j:Nat) (s:SV),l[j]? =some s→Rel F own w s (vs.getD j undef))→Rel F own w (.tup l) (.tuple vs)
 |fn {f:FuncId} {first caps:List SV} {us vs:Array Value}:us.size=first.length→vs.size=caps.length→(∀ (j:Nat) (s:SV),first[j]? =some s→Rel F own w s (us.getD j undef))→
   (∀ (j:Nat) (s:SV),caps[j]? =some s→Rel F own w s (vs.getD j undef))→Rel F own w (.fn f first caps) (.func (.func f) us vs)
structure Goes (F:Nat→Prop)(own:Own)(w:World)(own':Own)(w':World):Prop where
 ids:∀ (id:Nat) (hd:Hd),own id=some hd→∃ hd',own' id=some hd'∧hd.like hd'
 keep:∀ b,b<w.heap.size→¬bS F own b→¬bS F own' b∧w'.heap[b]? =w.heap[b]?
 size:w.heap.size≤w'.heap.size
structure Bs where
 w:World
 own:Own:=cj
 ds:List Deferred:=[]
def Old (B:Bs)(b:Nat):Prop:=b<B.w.heap.size∧¬ ∃ id hd,B.own id=some hd∧b∈hd.bs
structure Fr (B:Bs)(own:Own)(w:World):Prop where
 ids:∀ (id:Nat) (hd:Hd),B.own id=some hd→∃ hd',own id=some hd'∧hd.like hd'
 base:∀ (id:Nat) (hd:Hd) (b:Nat),own id=some hd→b∈hd.bs→¬Old B b
 os:w.os=B.w.os
 tape:w.tape=B.w.tape
 output:w.output=B.w.output
 size:B.w.heap.size≤w.heap.size
 block:∀ k,Old B k→w.heap[k]? =B.w.heap[k]?
theorem Fr.refl (B:Bs):Fr B B.own B.w:=⟨fun _ hd h=>⟨hd,h,.refl _⟩,fun id hd _ h hb ho=>ho.2 ⟨id,hd,h,hb⟩,rfl,rfl,rfl,Nat.le_refl _,fun _ _=>rfl⟩
theorem Fr.below {B:Bs}{own:Own}{w w':World}(h:Fr B own w)(hb:Below w.heap.size w w'):Fr B own w':=
 ⟨h.ids,h.base,hb.os.trans h.os,hb.tape.trans h.tape,hb.output.trans h.output,Nat.le_trans h.size hb.size,fun k hk=>(hb.block k (Nat.lt_of_lt_of_le hk.1 h.size)).trans (h.block k hk)⟩
theorem Fr.drew {B:Bs}{own:Own}{w:World}(h:Fr B own w):Fr B own { w with drawn:=w.drawn+1}:=⟨h.ids,h.base,h.os,h.tape,h.output,h.size,h.block⟩
theorem Fr.trans {B:Bs}{own own':Own}{w w':World}(h:Fr B own w)(h':Fr { w:=w,own:=own} own' w'):Fr B own' w':=by
 have hold:∀ k,Old B k→Old { w:=w,own:=own} k:=fun k hk=>⟨Nat.lt_of_lt_of_le hk.1 h.size,fun⟨id,hd,hm,hb⟩ =>h.base id hd k hm hb hk⟩;refine⟨fun id hd hi=>?_,fun id hd b hi hb ho=>h'.base id hd b hi hb (hold b ho),h'.os.trans h.os,h'.tape.trans h.tape,h'.output.trans h.output,Nat.le_trans h.size h'.size,
  fun k hk=>(h'.block k (hold k hk)).trans (h.block k hk)⟩
 obtain⟨hd1,e1,l1⟩:=h.ids id hd hi;obtain⟨hd2,e2,l2⟩:=h'.ids id hd1 e1;exact⟨hd2,e2,l1.trans l2⟩
theorem Fr.goes {F:Nat→Prop}{own own':Own}{w w':World}(h:Fr { w:=w,own:=own} own' w'):Goes F own w own' w':=
 ⟨h.ids,fun b hb hn=>by
  have ho:Old { w:=w,own:=own} b:=⟨hb,fun⟨id,hd,hm,he⟩ =>hn (.inr ⟨id,hd,hm,he⟩)⟩;refine⟨?_,h.block b ho⟩;rintro (hf| ⟨id,hd,hm,he⟩)
  ·exact hn (.inl hf)
  ·exact h.base id hd b hm he ho,h.size⟩
theorem Fr.of_step {own own':Own}{w w':World}(ids:∀ (id:Nat) (hd:Hd),own id=some hd→∃ hd',own' id=some hd'∧hd.like hd')
  (bs:∀ id hd b,own' id=some hd→b∈hd.bs→(∃ id' hd',own id'=some hd'∧b∈hd'.bs)∨w.heap.size≤b)
  (block:∀ b,b<w.heap.size→(¬ ∃ id hd,own id=some hd∧b∈hd.bs)→w'.heap[b]? =w.heap[b]?) (size:w.heap.size≤w'.heap.size)
  (os:w'.os=w.os) (tape:w'.tape=w.tape) (output:w'.output=w.output):Fr { w:=w,own:=own} own' w':=
 ⟨ids,fun id hd b h1 h2 ho=>by
  rcases bs id hd b h1 h2 with h|h
  ·exact ho.2 h
  ·have:=ho.1;simp at this;omega,os,tape,output,size,fun k hk=>block k hk.1 hk.2⟩
theorem EB {w:World}{b o:Nat}{v:Value}(h:w.cell? ⟨b,o,none⟩=some v):b<w.heap.size:=World.block_lt_of_cell? w _ h
theorem sA {w w':World}{b:Nat}(h:w'.heap[b]? =w.heap[b]?)(o:Nat):w'.cell? ⟨b,o,none⟩=w.cell? ⟨b,o,none⟩:=by
 simp only[World.cell?,h]
theorem nf {w:World}{b:Nat}{o:Obj}(h:w.heap[b]? =some o):b<w.heap.size:=by
 rcases Nat.lt_or_ge b w.heap.size with h'|h'
 ·exact h'
 ·simp[Array.getElem?_eq_none h']at h
structure Carries (F:Nat→Prop)(own:Own)(w:World)(F':Nat→Prop)(own':Own)(w':World):Prop where
 ids:∀ (id:Nat) (hd:Hd),own id=some hd→∃ hd',own' id=some hd'∧hd.like hd'
 keep:∀ b,b<w.heap.size→¬bS F own b→¬bS F' own' b∧w'.heap[b]? =w.heap[b]?
theorem Goes.carries {F:Nat→Prop}{own own':Own}{w w':World}(g:Goes F own w own' w'):Carries F own w F own' w':=⟨g.ids,g.keep⟩
theorem Rel.carry {F F':Nat→Prop}{own own':Own}{w w':World}(g:Carries F own w F' own' w'){s:SV}{v:Value}(h:Rel F own w s v):Rel F' own' w' s v:=by
 induction h with
 |any v=>exact .any v
 |v x=>exact .v x
 |ptr h1 h2=>obtain⟨hd',e,l⟩:=g.ids _ _ h1;exact .ptr e (l.1.trans h2)
 |os h1 h2=>obtain⟨hd',e,l⟩:=g.ids _ _ h1;rw[←l.2.1]at h2 ⊢;exact .os e h2
 |e0=>exact .e0
 |rp h1 h2 h3=>obtain⟨hd',e,l⟩:=g.ids _ _ h1;exact .rp e (l.2.1.trans h2) h3
 |gr h1 h2 h3=>obtain⟨hd',e,l⟩:=g.ids _ _ h1;exact .gr e (by rw[l.2.2];exact h2) h3
 |gp h1 h2 h3=>obtain⟨hd',e,l⟩:=g.ids _ _ h1;exact .gp e (by rw[l.2.2];exact h2) h3
 |vw h1 h2 h3=>obtain⟨hd',e,l⟩:=g.ids _ _ h1;exact .vw e (by rw[l.2.1];exact h2) h3
 |ep c h1 _ ih=>
  refine .ep c (fun j s hj=>?_) ih;obtain⟨hn,hc⟩:=h1 j s hj;obtain⟨hn',hk⟩:=g.keep _ (EB hc) hn;exact⟨hn',by rw[sA hk];exact hc⟩
 |rs c h0 h0' h1 _ ih=>
  refine .rs c h0 h0' (fun i x hi j s hj=>?_) ih;obtain⟨hn,hc⟩:=h1 i x hi j s hj;obtain⟨hn',hk⟩:=g.keep _ (EB hc) hn;exact⟨hn',by rw[sA hk];exact hc⟩
 |rs0=>exact .rs0
 |ls c h0 h1 _ ih=>
  refine .ls c h0 (fun j s hj=>?_) ih;obtain⟨hn,hc⟩:=h1 j s hj;obtain⟨hn',hk⟩:=g.keep _ (EB hc) hn;exact⟨hn',by rw[sA hk];exact hc⟩
 |rm ck cv es clock h0 h1 h2 h3 _ _ ih1 ih2=>
  obtain⟨hn',hk⟩:=g.keep _ (nf h1) h0;exact .rm ck cv es clock hn' (by rw[hk];exact h1) h2 h3 ih1 ih2
 |rm0=>exact .rm0
 |agg h0 _ ih=>exact .agg h0 ih
 |tup h0 _ ih=>exact .tup h0 ih
 |fn h0 h0' _ _ ih1 ih2=>exact .fn h0 h0' ih1 ih2
theorem Rel.mono {F:Nat→Prop}{own own':Own}{w w':World}(g:Goes F own w own' w'){s:SV}{v:Value}(h:Rel F own w s v):Rel F own' w' s v:=h.carry g.carries
theorem Goes.refl (F:Nat→Prop)(own:Own)(w:World):Goes F own w own w:=⟨fun _ hd h=>⟨hd,h,.refl _⟩,fun _ _ h=>⟨h,rfl⟩,Nat.le_refl _⟩
theorem qT (w:World)(o:Obj)(b:Nat)(h:b<w.heap.size):(w.alloc o).heap[b]? =w.heap[b]?:=Below.heap_alloc w o b h
theorem mh (w:World)(o:Obj):(w.alloc o).heap[w.heap.size]? =some o:=by show(w.heap.push o)[w.heap.size]? =_;simp
theorem jn (w:World)(o:Obj):(w.alloc o).heap.size=w.heap.size+1:=by show(w.heap.push o).size=_;simp
theorem Goes.below (F:Nat→Prop)(own:Own){w w':World}(h:Below w.heap.size w w'):Goes F own w own w':=
 ⟨fun _ hd h=>⟨hd,h,.refl _⟩,fun b hb hn=>⟨hn,h.block b hb⟩,h.size⟩
theorem qU (w:World)(o:Obj):Below w.heap.size w (w.alloc o):=(Below.refl _ _).alloc (Nat.le_refl _) o
theorem f5 {α:Type}:∀ (l:List α) (i:Nat),nth l i=l[i]?
 | [],i=>by simp[nth]
 |x::r,0=>by simp[nth]
 |x::r,i+1=>by simp[nth,f5 r i]
theorem sJ:∀ l:List SV,sz l=l.length
 | [] =>rfl
 |x::r=>by simp[sz,sJ r]
theorem EC:∀ (n:Nat) (l:List SV),cut n l=l.take n
 |0,l=>by simp[cut]
 |n+1,[] =>by simp[cut]
 |n+1,x::r=>by simp[cut,EC n r]
theorem AU:∀ (n:Nat) (l:List SV),FK n l=l.drop n
 |0,l=>by simp[FK]
 |n+1,[] =>by simp[FK]
 |n+1,x::r=>by simp[FK,AU n r]
theorem yB:∀ (l:List SV) (i:Nat) (s:SV),Bh l i s=l.set i s
 | [],i,s=>by simp[Bh]
 |x::r,0,s=>by simp[Bh]
 |x::r,i+1,s=>by simp[Bh,yB r i s]
theorem ol:∀ (vs cells:List SV) (off:Nat),(gK cells off vs).length=cells.length
 | [],cells,off=>rfl
 |x::xs,cells,off=>by simp[gK,ol xs,yB]
theorem pd:∀ (vs cells:List SV) (off:Nat),off+vs.length≤cells.length→∀ j,(gK cells off vs)[j]? =if off≤j∧j<off+vs.length then vs[j - off]? else cells[j]?
 | [],cells,off,_,j=>by simp only[gK,List.length_nil];rw[if_neg (by omega)]
 |x::xs,cells,off,h,j=>by
  simp only[List.length_cons]at h;rw[gK,pd xs _ _ (by simp[yB];omega),yB];by_cases hj:off+1≤j∧j<off+1+xs.length
  ·rw[if_pos hj,if_pos (by simp;omega),show j - off=(j - (off+1))+1 by omega,List.getElem?_cons_succ]
  ·rw[if_neg hj,List.getElem?_set];by_cases hjo:off=j
   ·subst hjo;rw[if_pos rfl,if_pos (by omega),if_pos (by simp)];simp
   ·rw[if_neg hjo,if_neg (by simp;omega)]
theorem qD:∀ (h:List Ob) (id:Nat),an h id=(h[id]?).getD .dead
 | [],id=>by simp[an]
 |o::r,0=>by simp[an]
 |o::r,n+1=>by simp[an,qD r n]
theorem cP:∀ (h:List Ob) (id:Nat) (x:Ob) (j:Nat),an (br h id x) j=if id=j then x else an h j
 | [],0,x,j=>by cases j <;>simp[br,an]
 | [],n+1,x,j=>by
  cases j with
  |zero=>simp[br,an]
  |succ j=>simp only[br,an,cP [] n x j];by_cases h:n=j <;>simp[h]
 |o::r,0,x,j=>by cases j <;>simp[br,an]
 |o::r,n+1,x,j=>by
  cases j with
  |zero=>simp[br,an]
  |succ j=>simp only[br,an,cP r n x j];by_cases h:n=j <;>simp[h]
theorem bP:∀ (h:List Ob) (id:Nat) (x:Ob),(br h id x).length=if id<h.length then h.length else id+1
 | [],0,x=>by simp[br]
 | [],n+1,x=>by simp[br,bP [] n x]
 |o::r,0,x=>by simp[br]
 |o::r,n+1,x=>by simp only[br,List.length_cons,bP r n x];by_cases h:n<r.length <;>simp[h] <;>omega
theorem qV {h:List Ob}{id:Nat}(hi:h.length≤id):an h id=.dead:=by rw[qD,List.getElem?_eq_none hi];rfl
theorem qW (h l:List Ob)(id:Nat):an (h++l) id=if id<h.length then an h id else an l (id - h.length):=by
 rw[qD,qD,qD,List.getElem?_append];split <;>rfl
theorem Bz {F:Nat→Prop}{own:Own}{w:World}{s:SV}{v:Value}{l:List SV}(h:Rel F own w s v)(hf:pP s=some l):
  v.cells.size=l.length∧∀ (j:Nat) (x:SV),l[j]? =some x→Rel F own w x (v.cells.getD j undef):=by
 have one:∀ {s:SV} {v:Value},Rel F own w s v→v.cells= #[v]→pP s=some [s]→pP s=some l→v.cells.size=l.length∧∀ (j:Nat) (x:SV),l[j]? =some x→Rel F own w x (v.cells.getD j undef):=by
  intro s v h hc h1 h2;rw[h1]at h2;simp only[Option.some.injEq]at h2;subst h2;rw[hc];refine⟨rfl,fun j x hj=>?_⟩;cases j with
  |zero=>simp at hj;subst hj;simpa using h
  |succ j=>simp at hj
 cases h with
 |any=>simp[pP]at hf
 |v=>
  cases v <;>first|exact one (.v _) rfl rfl hf|simp[pP]at hf
  subst hf;rename_i cs;refine⟨by simp[Value.cells],fun j y hj=>?_⟩;simp at hj;obtain⟨z,hz,rfl⟩:=hj;simp[Value.cells,hz];exact .v _
 |ptr h1 h2=>exact one (.ptr h1 h2) rfl rfl hf
 |os h1 h2=>exact one (.os h1 h2) (By h2) rfl hf
 |e0=>exact one .e0 rfl rfl hf
 |rp h1 h2 h3=>exact one (.rp h1 h2 h3) rfl rfl hf
 |gr h1 h2 h3=>exact one (.gr h1 h2 h3) (By h3) rfl hf
 |gp h1 h2 h3=>exact one (.gp h1 h2 h3) rfl rfl hf
 |vw h1 h2 h3=>exact one (.vw h1 h2 h3) rfl rfl hf
 |ep c h1 h2=>exact one (.ep c h1 h2) rfl rfl hf
 |rs c h0 h0' h1 h2=>exact one (.rs c h0 h0' h1 h2) rfl rfl hf
 |rs0=>exact one .rs0 rfl rfl hf
 |ls c h0 h1 h2=>exact one (.ls c h0 h1 h2) rfl rfl hf
 |rm ck cv es clock h0 h1 h2 h3 h4 h5=>exact one (.rm ck cv es clock h0 h1 h2 h3 h4 h5) rfl rfl hf
 |rm0=>exact one .rm0 rfl rfl hf
 |agg h0 h1=>simp[pP]at hf;subst hf;exact⟨h0,h1⟩
 |tup=>simp[pP]at hf
 |fn h0 h0' h1 h2=>exact one (.fn h0 h0' h1 h2) rfl rfl hf
end Go.Sx
end
