/- Part of the proof that the law JudgementClash returns true and leaves its arguments as they were, for all arguments of bulk at most 1048576 (the Upto form). -/
import Derived.Calls
import Derived.Orders
import Derived.Below
import Derived.KernelRfl
import Derived.Laws.Sem
import Derived.Laws.World
import Derived.Laws.Cells
set_option linter.all false
set_option maxHeartbeats 4000000
set_option maxRecDepth 100000
section
namespace Go.Sx
open Go.RowKit
structure Range where
 lo:Int
 hi:Int
 deriving Inhabited,DecidableEq
structure Ratio where
 n:Int
 d:Int
 deriving Inhabited,DecidableEq
structure Reach where
 name:ByteArray
 up:Int
 delay:Int
 cap:Int
 bank:Int
 siphon:Int
 evap:Range
 seep:Ratio×Ratio
 deriving Inhabited,DecidableEq
structure Farm where
 name:ByteArray
 reach:Int
 area:Int
 crop:Int
 deriving Inhabited,DecidableEq
structure Crop where
 name:ByteArray
 need:Int
 deriving Inhabited,DecidableEq
structure Right where
 name:ByteArray
 kind:Int
 farm:Int
 reach:Int
 rank:Int
 litres:Int
 since:Int
 to:Int
 every:Int
 length:Int
 deriving Inhabited,DecidableEq
structure Duty where
 name:ByteArray
 farm:Int
 reach:Int
 due:Int
 deriving Inhabited,DecidableEq
structure Well where
 farm:Int
 reach:Int
 d:Int
 kernel:List Int
 deriving Inhabited,DecidableEq
structure Claim where
 right:Int
 farm:Int
 hour:Int
 litres:Int
 rank:Int
 deriving Inhabited,DecidableEq
structure Judgement where
 no:Int
 hour:Int
 kind:Int
 farm:Int
 other:Int
 since:Int
 to:Int
 n:Int
 of_:Int
 deriving Inhabited,DecidableEq
structure Case where
 no:Int
 hour:Int
 winner:Int
 facts:List Int
 reason:List Int
 deriving Inhabited,DecidableEq
structure Clause where
 no:Int
 then_:Int
 rank:Int
 strict:Bool
 if_:List Int
 deriving Inhabited,DecidableEq
structure Plea where
 facts:List Int
 clauses:List Clause
 deriving Inhabited,DecidableEq
structure Suit where
 no:Int
 hour:Int
 question:Int
 plea:Plea
 facts:List Int
 deriving Inhabited,DecidableEq
structure Order where
 hour:Int
 index:Int
 litres:Int
 outlet:Bool
 deriving Inhabited,DecidableEq
structure PrecedentsDecided where
 winner:Int
 facts:Int
 reason:Int
 deriving Inhabited,DecidableEq
structure Reason where
 literal:Int
 clause:Int
 proved:Bool
 deriving Inhabited,DecidableEq
structure TimetableSlot where
 index:Int
 hour:Int
 deriving Inhabited,DecidableEq
structure Tank where
 cap:Int
 start:Int
 deriving Inhabited,DecidableEq
structure District where
 name:ByteArray
 hours:Int
 tank:Tank
 reaches:List Reach
 farms:List Farm
 crops:List Crop
 rights:List Right
 duties:List Duty
 wells:List Well
 deriving Inhabited,DecidableEq
structure Cases where
 sides:List Int
 cases:List Case
 deriving Inhabited,DecidableEq
structure PrecedentsCourt where
 favour:Int×Int
 cases:List PrecedentsDecided
 deriving Inhabited,DecidableEq
structure PleasCourt where
 plea:Plea
 strict:List (Int×Bool)
 known:List (Int×Int)
 deriving Inhabited,DecidableEq
structure Fault where
 kind:Int
 hour:Int
 index:Int
 litres:Int
 limit:Int
 deriving Inhabited,DecidableEq
structure Acequiaref51State where
 strict:List Int
 proved:List Int
 refuted:List Int
 deriving Inhabited,DecidableEq
inductive Tag where
 |reach|farm|crop|right|duty|int|well|claim|judgement|case|clause|suit|bool|order|fnc|precedentsDecided|reason|int2|timetableSlot|tank|district|cases|plea|precedentsCourt|pleasCourt|fault|ratio|ratio2|range|acequiaref51State|str
 deriving DecidableEq
abbrev Tag.T:Tag->Type
 | .reach=>Reach
 | .farm=>Farm
 | .crop=>Crop
 | .right=>Right
 | .duty=>Duty
 | .int=>Int
 | .well=>Well
 | .claim=>Claim
 | .judgement=>Judgement
 | .case=>Case
 | .clause=>Clause
 | .suit=>Suit
 | .bool=>Bool
 | .order=>Order
 | .fnc=>Option Nat
 | .precedentsDecided=>PrecedentsDecided
 | .reason=>Reason
 | .int2=>Int×Int
 | .timetableSlot=>TimetableSlot
 | .tank=>Tank
 | .district=>District
 | .cases=>Cases
 | .plea=>Plea
 | .precedentsCourt=>PrecedentsCourt
 | .pleasCourt=>PleasCourt
 | .fault=>Fault
 | .ratio=>Ratio
 | .ratio2=>Ratio×Ratio
 | .range=>Range
 | .acequiaref51State=>Acequiaref51State
 | .str=>ByteArray
def yS:Tag->Nat
 | .reach=>0
 | .farm=>1
 | .crop=>2
 | .right=>3
 | .duty=>4
 | .int=>5
 | .well=>6
 | .claim=>7
 | .judgement=>8
 | .case=>9
 | .clause=>10
 | .suit=>11
 | .bool=>12
 | .order=>13
 | .fnc=>14
 | .precedentsDecided=>15
 | .reason=>16
 | .int2=>17
 | .timetableSlot=>18
 | .tank=>19
 | .district=>20
 | .cases=>21
 | .plea=>22
 | .precedentsCourt=>23
 | .pleasCourt=>24
 | .fault=>25
 | .ratio=>26
 | .ratio2=>27
 | .range=>28
 | .acequiaref51State=>29
 | .str=>30
def rank:Tag->Nat
 | .reach=>0
 | .farm=>0
 | .crop=>0
 | .right=>0
 | .duty=>0
 | .int=>0
 | .well=>1
 | .claim=>0
 | .judgement=>0
 | .case=>1
 | .clause=>1
 | .suit=>2
 | .bool=>0
 | .order=>0
 | .fnc=>1
 | .precedentsDecided=>0
 | .reason=>0
 | .int2=>0
 | .timetableSlot=>0
 | .tank=>0
 | .district=>2
 | .cases=>2
 | .plea=>2
 | .precedentsCourt=>1
 | .pleasCourt=>2
 | .fault=>0
 | .ratio=>0
 | .ratio2=>0
 | .range=>0
 | .acequiaref51State=>1
 | .str=>0
def Tag.ofName:String->Option Tag
 | "api.Reach" =>some .reach
 | "api.Farm" =>some .farm
 | "api.Crop" =>some .crop
 | "api.Right" =>some .right
 | "api.Duty" =>some .duty
 | "api.Errno" =>some .int
 | "expand.refused" =>some .int
 | "int" =>some .int
 | "int64" =>some .int
 | "api.Well" =>some .well
 | "api.Claim" =>some .claim
 | "api.Judgement" =>some .judgement
 | "api.Case" =>some .case
 | "api.Clause" =>some .clause
 | "api.Suit" =>some .suit
 | "bool" =>some .bool
 | "api.Order" =>some .order
 | "func() bool" =>some .fnc
 | "func(api.Order) int" =>some .fnc
 | "func(judgement.docket, api.Judgement) judgement.docket" =>some .fnc
 | "precedents.decided" =>some .precedentsDecided
 | "api.Reason" =>some .reason
 | "[2]int" =>some .int2
 | "[2]precedents.set" =>some .int2
 | "timetable.slot" =>some .timetableSlot
 | "api.Tank" =>some .tank
 | "api.District" =>some .district
 | "api.Cases" =>some .cases
 | "api.Plea" =>some .plea
 | "precedents.court" =>some .precedentsCourt
 | "pleas.court" =>some .pleasCourt
 | "api.Fault" =>some .fault
 | "api.Ratio" =>some .ratio
 | "[2]api.Ratio" =>some .ratio2
 | "api.Range" =>some .range
 | "acequiaref51.state" =>some .acequiaref51State
 | "string" =>some .str
 |_=>none
instance instDecTag:(k:Tag)->DecidableEq k.T
 | .reach=>inferInstanceAs (DecidableEq (Reach))
 | .farm=>inferInstanceAs (DecidableEq (Farm))
 | .crop=>inferInstanceAs (DecidableEq (Crop))
 | .right=>inferInstanceAs (DecidableEq (Right))
 | .duty=>inferInstanceAs (DecidableEq (Duty))
 | .int=>inferInstanceAs (DecidableEq (Int))
 | .well=>inferInstanceAs (DecidableEq (Well))
 | .claim=>inferInstanceAs (DecidableEq (Claim))
 | .judgement=>inferInstanceAs (DecidableEq (Judgement))
 | .case=>inferInstanceAs (DecidableEq (Case))
 | .clause=>inferInstanceAs (DecidableEq (Clause))
 | .suit=>inferInstanceAs (DecidableEq (Suit))
 | .bool=>inferInstanceAs (DecidableEq (Bool))
 | .order=>inferInstanceAs (DecidableEq (Order))
 | .fnc=>inferInstanceAs (DecidableEq (Option Nat))
 | .precedentsDecided=>inferInstanceAs (DecidableEq (PrecedentsDecided))
 | .reason=>inferInstanceAs (DecidableEq (Reason))
 | .int2=>inferInstanceAs (DecidableEq (Int×Int))
 | .timetableSlot=>inferInstanceAs (DecidableEq (TimetableSlot))
 | .tank=>inferInstanceAs (DecidableEq (Tank))
 | .district=>inferInstanceAs (DecidableEq (District))
 | .cases=>inferInstanceAs (DecidableEq (Cases))
 | .plea=>inferInstanceAs (DecidableEq (Plea))
 | .precedentsCourt=>inferInstanceAs (DecidableEq (PrecedentsCourt))
 | .pleasCourt=>inferInstanceAs (DecidableEq (PleasCourt))
 | .fault=>inferInstanceAs (DecidableEq (Fault))
 | .ratio=>inferInstanceAs (DecidableEq (Ratio))
 | .ratio2=>inferInstanceAs (DecidableEq (Ratio×Ratio))
 | .range=>inferInstanceAs (DecidableEq (Range))
 | .acequiaref51State=>inferInstanceAs (DecidableEq (Acequiaref51State))
 | .str=>inferInstanceAs (DecidableEq (ByteArray))
structure Res where
 yv:Value
 n:Nat
 R:(Nat->Prop)->List Nat->World->Prop
 loc:∀ (F F':Nat->Prop) (bs:List Nat) (w w':World),R F bs w->w.heap.size<=w'.heap.size->(∀ b,b<w.heap.size->¬F b->w'.heap[b]? =w.heap[b]?)->(∀ b,b<w.heap.size->F' b->F b)->R F' bs w'
instance:Inhabited Res:=⟨⟨.nilFunc,0,fun _ _ _=>True,fun _ _ _ _ _ _ _ _ _=>trivial⟩⟩
inductive SV where
 |any
 |v (x:Value)
 |ptr (id off:Nat)
 |os (id:Nat)
 |e0
 |rp (sz id:Nat) (i:Int) (off:Nat)
 |gr (id:Nat) (i:Int)
 |gp (sz id:Nat) (i j:Int) (off:Nat)
 |ep (cells:List SV) (off:Nat)
 |rs (k:Tag) (l:List k.T)
 |ls (l:List SV)
 |rm (kk vk:Tag) (l:List (kk.T×vk.T))
 |agg (l:List SV)
 |tup (l:List SV)
 |fn (f:FuncId) (first caps:List SV)
 |nw (k:Tag) (l:List k.T)
 |nm (kk vk:Tag) (l:List (kk.T×vk.T))
 |ng (k:Tag) (l:List (List k.T))
 |gd (j:Nat) (want:Bool) (s:SV)
 |vw (sz id:Nat) (lo hi:Int)
 |rc (k:Tag) (l:List k.T)
 deriving Inhabited
abbrev SV.i (n:Int):SV:=.v (.int .i64 n)
abbrev SV.b (x:Bool):SV:=.v (.bool x)
abbrev SV.s (x:ByteArray):SV:=.v (.string x)
def fnV:Option Nat->SV|some f=>.fn f [] [] |none=>.v .nilFunc
def cellsOf:(k:Tag)->k.T->List SV
 | .reach,x=>[.v (.string x.name),.v (.int .i64 x.up),.v (.int .i64 x.delay),.v (.int .i64 x.cap),.v (.int .i64 x.bank),.v (.int .i64 x.siphon),.v (.int .i64 x.evap.lo),.v (.int .i64 x.evap.hi),.v (.int .i64 x.seep.1.n),.v (.int .i64 x.seep.1.d),.v (.int .i64 x.seep.2.n),.v (.int .i64 x.seep.2.d)]
 | .farm,x=>[.v (.string x.name),.v (.int .i64 x.reach),.v (.int .i64 x.area),.v (.int .i64 x.crop)]
 | .crop,x=>[.v (.string x.name),.v (.int .i64 x.need)]
 | .right,x=>[.v (.string x.name),.v (.int .i64 x.kind),.v (.int .i64 x.farm),.v (.int .i64 x.reach),.v (.int .i64 x.rank),.v (.int .i64 x.litres),.v (.int .i64 x.since),.v (.int .i64 x.to),.v (.int .i64 x.every),.v (.int .i64 x.length)]
 | .duty,x=>[.v (.string x.name),.v (.int .i64 x.farm),.v (.int .i64 x.reach),.v (.int .i64 x.due)]
 | .int,x=>[.v (.int .i64 x)]
 | .well,x=>[.v (.int .i64 x.farm),.v (.int .i64 x.reach),.v (.int .i64 x.d),.rs .int x.kernel]
 | .claim,x=>[.v (.int .i64 x.right),.v (.int .i64 x.farm),.v (.int .i64 x.hour),.v (.int .i64 x.litres),.v (.int .i64 x.rank)]
 | .judgement,x=>[.v (.int .i64 x.no),.v (.int .i64 x.hour),.v (.int .i64 x.kind),.v (.int .i64 x.farm),.v (.int .i64 x.other),.v (.int .i64 x.since),.v (.int .i64 x.to),.v (.int .i64 x.n),.v (.int .i64 x.of_)]
 | .case,x=>[.v (.int .i64 x.no),.v (.int .i64 x.hour),.v (.int .i64 x.winner),.rs .int x.facts,.rs .int x.reason]
 | .clause,x=>[.v (.int .i64 x.no),.v (.int .i64 x.then_),.v (.int .i64 x.rank),.v (.bool x.strict),.rs .int x.if_]
 | .suit,x=>[.v (.int .i64 x.no),.v (.int .i64 x.hour),.v (.int .i64 x.question),.rs .int x.plea.facts,.rs .clause x.plea.clauses,.rs .int x.facts]
 | .bool,x=>[.v (.bool x)]
 | .order,x=>[.v (.int .i64 x.hour),.v (.int .i64 x.index),.v (.int .i64 x.litres),.v (.bool x.outlet)]
 | .fnc,x=>[fnV x]
 | .precedentsDecided,x=>[.v (.int .i64 x.winner),.v (.int .u64 x.facts),.v (.int .u64 x.reason)]
 | .reason,x=>[.v (.int .i64 x.literal),.v (.int .i64 x.clause),.v (.bool x.proved)]
 | .int2,x=>[.v (.int .i64 x.1),.v (.int .i64 x.2)]
 | .timetableSlot,x=>[.v (.int .i64 x.index),.v (.int .i64 x.hour)]
 | .tank,x=>[.v (.int .i64 x.cap),.v (.int .i64 x.start)]
 | .district,x=>[.v (.string x.name),.v (.int .i64 x.hours),.v (.int .i64 x.tank.cap),.v (.int .i64 x.tank.start),.rs .reach x.reaches,.rs .farm x.farms,.rs .crop x.crops,.rs .right x.rights,.rs .duty x.duties,.rs .well x.wells]
 | .cases,x=>[.rs .int x.sides,.rs .case x.cases]
 | .plea,x=>[.rs .int x.facts,.rs .clause x.clauses]
 | .precedentsCourt,x=>[.v (.int .u64 x.favour.1),.v (.int .u64 x.favour.2),.rs .precedentsDecided x.cases]
 | .pleasCourt,x=>[.rs .int x.plea.facts,.rs .clause x.plea.clauses,.rm .int .bool x.strict,.rm .int .int x.known]
 | .fault,x=>[.v (.int .i64 x.kind),.v (.int .i64 x.hour),.v (.int .i64 x.index),.v (.int .i64 x.litres),.v (.int .i64 x.limit)]
 | .ratio,x=>[.v (.int .i64 x.n),.v (.int .i64 x.d)]
 | .ratio2,x=>[.v (.int .i64 x.1.n),.v (.int .i64 x.1.d),.v (.int .i64 x.2.n),.v (.int .i64 x.2.d)]
 | .range,x=>[.v (.int .i64 x.lo),.v (.int .i64 x.hi)]
 | .acequiaref51State,x=>[.rs .int x.strict,.rs .int x.proved,.rs .int x.refuted]
 | .str,x=>[.v (.string x)]
def aa:Tag->Nat
 | .reach=>12
 | .farm=>4
 | .crop=>2
 | .right=>10
 | .duty=>4
 | .int=>1
 | .well=>4
 | .claim=>5
 | .judgement=>9
 | .case=>5
 | .clause=>5
 | .suit=>6
 | .bool=>1
 | .order=>4
 | .fnc=>1
 | .precedentsDecided=>3
 | .reason=>3
 | .int2=>2
 | .timetableSlot=>2
 | .tank=>2
 | .district=>10
 | .cases=>2
 | .plea=>2
 | .precedentsCourt=>3
 | .pleasCourt=>4
 | .fault=>5
 | .ratio=>2
 | .ratio2=>4
 | .range=>2
 | .acequiaref51State=>3
 | .str=>1
theorem bh (k:Tag)(x:k.T):(cellsOf k x).length=aa k:=by cases k <;>rfl
def gw:(k:Tag)->k.T
 | .reach=>(default:Reach)
 | .farm=>(default:Farm)
 | .crop=>(default:Crop)
 | .right=>(default:Right)
 | .duty=>(default:Duty)
 | .int=>(0:Int)
 | .well=>(default:Well)
 | .claim=>(default:Claim)
 | .judgement=>(default:Judgement)
 | .case=>(default:Case)
 | .clause=>(default:Clause)
 | .suit=>(default:Suit)
 | .bool=>false
 | .order=>(default:Order)
 | .fnc=>(default:Option Nat)
 | .precedentsDecided=>(default:PrecedentsDecided)
 | .reason=>(default:Reason)
 | .int2=>(default:Int×Int)
 | .timetableSlot=>(default:TimetableSlot)
 | .tank=>(default:Tank)
 | .district=>(default:District)
 | .cases=>(default:Cases)
 | .plea=>(default:Plea)
 | .precedentsCourt=>(default:PrecedentsCourt)
 | .pleasCourt=>(default:PleasCourt)
 | .fault=>(default:Fault)
 | .ratio=>(default:Ratio)
 | .ratio2=>(default:Ratio×Ratio)
 | .range=>(default:Range)
 | .acequiaref51State=>(default:Acequiaref51State)
 | .str=>(ByteArray.mk #[])
inductive Kd where
 |s|b|n (k:IntKind) |r (k:Tag) |m (k k2:Tag) |f
def pn:Tag->Bool
 | .reach=>true
 | .farm=>true
 | .crop=>true
 | .right=>true
 | .duty=>true
 | .int=>false
 | .well=>true
 | .claim=>true
 | .judgement=>true
 | .case=>true
 | .clause=>true
 | .suit=>true
 | .bool=>false
 | .order=>true
 | .fnc=>false
 | .precedentsDecided=>true
 | .reason=>true
 | .int2=>true
 | .timetableSlot=>true
 | .tank=>true
 | .district=>true
 | .cases=>true
 | .plea=>true
 | .precedentsCourt=>true
 | .pleasCourt=>true
 | .fault=>true
 | .ratio=>true
 | .ratio2=>true
 | .range=>true
 | .acequiaref51State=>true
 | .str=>false
def Gx:(k:Tag)->List (List k.T)->SV
 |_,_=>.any
def eH:Tag->List Kd
 | .reach=>[.s,.n .i64,.n .i64,.n .i64,.n .i64,.n .i64,.n .i64,.n .i64,.n .i64,.n .i64,.n .i64,.n .i64]
 | .farm=>[.s,.n .i64,.n .i64,.n .i64]
 | .crop=>[.s,.n .i64]
 | .right=>[.s,.n .i64,.n .i64,.n .i64,.n .i64,.n .i64,.n .i64,.n .i64,.n .i64,.n .i64]
 | .duty=>[.s,.n .i64,.n .i64,.n .i64]
 | .int=>[.n .i64]
 | .well=>[.n .i64,.n .i64,.n .i64,.r .int]
 | .claim=>[.n .i64,.n .i64,.n .i64,.n .i64,.n .i64]
 | .judgement=>[.n .i64,.n .i64,.n .i64,.n .i64,.n .i64,.n .i64,.n .i64,.n .i64,.n .i64]
 | .case=>[.n .i64,.n .i64,.n .i64,.r .int,.r .int]
 | .clause=>[.n .i64,.n .i64,.n .i64,.b,.r .int]
 | .suit=>[.n .i64,.n .i64,.n .i64,.r .int,.r .clause,.r .int]
 | .bool=>[.b]
 | .order=>[.n .i64,.n .i64,.n .i64,.b]
 | .fnc=>[.f]
 | .precedentsDecided=>[.n .i64,.n .u64,.n .u64]
 | .reason=>[.n .i64,.n .i64,.b]
 | .int2=>[.n .i64,.n .i64]
 | .timetableSlot=>[.n .i64,.n .i64]
 | .tank=>[.n .i64,.n .i64]
 | .district=>[.s,.n .i64,.n .i64,.n .i64,.r .reach,.r .farm,.r .crop,.r .right,.r .duty,.r .well]
 | .cases=>[.r .int,.r .case]
 | .plea=>[.r .int,.r .clause]
 | .precedentsCourt=>[.n .u64,.n .u64,.r .precedentsDecided]
 | .pleasCourt=>[.r .int,.r .clause,.m .int .bool,.m .int .int]
 | .fault=>[.n .i64,.n .i64,.n .i64,.n .i64,.n .i64]
 | .ratio=>[.n .i64,.n .i64]
 | .ratio2=>[.n .i64,.n .i64,.n .i64,.n .i64]
 | .range=>[.n .i64,.n .i64]
 | .acequiaref51State=>[.r .int,.r .int,.r .int]
 | .str=>[.s]
def toI:SV->Int| .v (.int _ n) =>n|_=>0
def toB:SV->Bool| .v (.bool b) =>b|_=>false
def toS:SV->ByteArray| .v (.string s) =>s|_=>ByteArray.mk #[]
def toF:SV->Option Nat| .fn f [] [] =>some f|_=>none
def z8:SV->List Reach| .rs .reach l=>l|_=>[]
def BR:SV->List Farm| .rs .farm l=>l|_=>[]
def BS:SV->List Crop| .rs .crop l=>l|_=>[]
def Aa:SV->List Right| .rs .right l=>l|_=>[]
def BT:SV->List Duty| .rs .duty l=>l|_=>[]
def mj:SV->List Int| .rs .int l=>l|_=>[]
def BU:SV->List Well| .rs .well l=>l|_=>[]
def D7:SV->List Claim| .rs .claim l=>l|_=>[]
def xR:SV->List Judgement| .rs .judgement l=>l|_=>[]
def BV:SV->List Case| .rs .case l=>l|_=>[]
def sH:SV->List Clause| .rs .clause l=>l|_=>[]
def Gy:SV->List Suit| .rs .suit l=>l|_=>[]
def Gz:SV->List Bool| .rs .bool l=>l|_=>[]
def D8:SV->List Order| .rs .order l=>l|_=>[]
def J4:SV->List (Option Nat) | .rs .fnc l=>l|_=>[]
def lV:SV->List PrecedentsDecided| .rs .precedentsDecided l=>l|_=>[]
def BW:SV->List Reason| .rs .reason l=>l|_=>[]
def GA:SV->List (Int×Int) | .rs .int2 l=>l|_=>[]
def tF:SV->List TimetableSlot| .rs .timetableSlot l=>l|_=>[]
def GB:SV->List Tank| .rs .tank l=>l|_=>[]
def yT:SV->List District| .rs .district l=>l|_=>[]
def D9:SV->List Cases| .rs .cases l=>l|_=>[]
def GC:SV->List Plea| .rs .plea l=>l|_=>[]
def r5:SV->List PrecedentsCourt| .rs .precedentsCourt l=>l|_=>[]
def wv:SV->List PleasCourt| .rs .pleasCourt l=>l|_=>[]
def D_:SV->List Fault| .rs .fault l=>l|_=>[]
def Ea:SV->List Ratio| .rs .ratio l=>l|_=>[]
def BX:SV->List (Ratio×Ratio) | .rs .ratio2 l=>l|_=>[]
def Eb:SV->List Range| .rs .range l=>l|_=>[]
def qf:SV->List Acequiaref51State| .rs .acequiaref51State l=>l|_=>[]
def J5:SV->List ByteArray| .rs .str l=>l|_=>[]
def vo:SV->List (Int×Bool) | .rm .int .bool l=>l|_=>[]
def ww:SV->List (Int×Int) | .rm .int .int l=>l|_=>[]
def at0:List SV->Nat->SV
 | [],_=>.any
 |x::_,0=>x
 |_::r,n+1=>at0 r n
def mkE:(k:Tag)->List SV->k.T
 | .reach,l=>(⟨toS (at0 l 0),toI (at0 l 1),toI (at0 l 2),toI (at0 l 3),toI (at0 l 4),toI (at0 l 5),⟨toI (at0 l 6),toI (at0 l 7)⟩,(⟨toI (at0 l 8),toI (at0 l 9)⟩,⟨toI (at0 l 10),toI (at0 l 11)⟩)⟩:Reach)
 | .farm,l=>(⟨toS (at0 l 0),toI (at0 l 1),toI (at0 l 2),toI (at0 l 3)⟩:Farm)
 | .crop,l=>(⟨toS (at0 l 0),toI (at0 l 1)⟩:Crop)
 | .right,l=>(⟨toS (at0 l 0),toI (at0 l 1),toI (at0 l 2),toI (at0 l 3),toI (at0 l 4),toI (at0 l 5),toI (at0 l 6),toI (at0 l 7),toI (at0 l 8),toI (at0 l 9)⟩:Right)
 | .duty,l=>(⟨toS (at0 l 0),toI (at0 l 1),toI (at0 l 2),toI (at0 l 3)⟩:Duty)
 | .int,l=>(toI (at0 l 0):Int)
 | .well,l=>(⟨toI (at0 l 0),toI (at0 l 1),toI (at0 l 2),mj (at0 l 3)⟩:Well)
 | .claim,l=>(⟨toI (at0 l 0),toI (at0 l 1),toI (at0 l 2),toI (at0 l 3),toI (at0 l 4)⟩:Claim)
 | .judgement,l=>(⟨toI (at0 l 0),toI (at0 l 1),toI (at0 l 2),toI (at0 l 3),toI (at0 l 4),toI (at0 l 5),toI (at0 l 6),toI (at0 l 7),toI (at0 l 8)⟩:Judgement)
 | .case,l=>(⟨toI (at0 l 0),toI (at0 l 1),toI (at0 l 2),mj (at0 l 3),mj (at0 l 4)⟩:Case)
 | .clause,l=>(⟨toI (at0 l 0),toI (at0 l 1),toI (at0 l 2),toB (at0 l 3),mj (at0 l 4)⟩:Clause)
 | .suit,l=>(⟨toI (at0 l 0),toI (at0 l 1),toI (at0 l 2),⟨mj (at0 l 3),sH (at0 l 4)⟩,mj (at0 l 5)⟩:Suit)
 | .bool,l=>(toB (at0 l 0):Bool)
 | .order,l=>(⟨toI (at0 l 0),toI (at0 l 1),toI (at0 l 2),toB (at0 l 3)⟩:Order)
 | .fnc,l=>(toF (at0 l 0):Option Nat)
 | .precedentsDecided,l=>(⟨toI (at0 l 0),toI (at0 l 1),toI (at0 l 2)⟩:PrecedentsDecided)
 | .reason,l=>(⟨toI (at0 l 0),toI (at0 l 1),toB (at0 l 2)⟩:Reason)
 | .int2,l=>((toI (at0 l 0),toI (at0 l 1)):Int×Int)
 | .timetableSlot,l=>(⟨toI (at0 l 0),toI (at0 l 1)⟩:TimetableSlot)
 | .tank,l=>(⟨toI (at0 l 0),toI (at0 l 1)⟩:Tank)
 | .district,l=>(⟨toS (at0 l 0),toI (at0 l 1),⟨toI (at0 l 2),toI (at0 l 3)⟩,z8 (at0 l 4),BR (at0 l 5),BS (at0 l 6),Aa (at0 l 7),BT (at0 l 8),BU (at0 l 9)⟩:District)
 | .cases,l=>(⟨mj (at0 l 0),BV (at0 l 1)⟩:Cases)
 | .plea,l=>(⟨mj (at0 l 0),sH (at0 l 1)⟩:Plea)
 | .precedentsCourt,l=>(⟨(toI (at0 l 0),toI (at0 l 1)),lV (at0 l 2)⟩:PrecedentsCourt)
 | .pleasCourt,l=>(⟨⟨mj (at0 l 0),sH (at0 l 1)⟩,vo (at0 l 2),ww (at0 l 3)⟩:PleasCourt)
 | .fault,l=>(⟨toI (at0 l 0),toI (at0 l 1),toI (at0 l 2),toI (at0 l 3),toI (at0 l 4)⟩:Fault)
 | .ratio,l=>(⟨toI (at0 l 0),toI (at0 l 1)⟩:Ratio)
 | .ratio2,l=>((⟨toI (at0 l 0),toI (at0 l 1)⟩,⟨toI (at0 l 2),toI (at0 l 3)⟩):Ratio×Ratio)
 | .range,l=>(⟨toI (at0 l 0),toI (at0 l 1)⟩:Range)
 | .acequiaref51State,l=>(⟨mj (at0 l 0),mj (at0 l 1),mj (at0 l 2)⟩:Acequiaref51State)
 | .str,l=>(toS (at0 l 0):ByteArray)
def kN:IntKind->Nat
 | .i8=>0| .i16=>1| .i32=>2| .i64=>3| .u8=>4| .u16=>5| .u32=>6| .u64=>7
def fit:Kd->SV->Bool
 | .s,.v (.string _) =>true
 | .b,.v (.bool _) =>true
 | .n k,.v (.int k' _) =>Nat.beq (kN k) (kN k')
 | .r k,.rs k' _=>Nat.beq (yS k) (yS k')
 | .m k k2,.rm k' k2' _=>Nat.beq (yS k) (yS k')&&Nat.beq (yS k2) (yS k2')
 | .f,.fn _ [] [] =>true
 | .f,.v .nilFunc=>true
 |_,_=>false
def uC:List Kd->List SV->Bool
 | [],[] =>true
 |k::ks,x::xs=>fit k x&&uC ks xs
 |_,_=>false
def GD:Kd->SV->SV
 | .r k,.v (.slice none 0 0) =>.rs k []
 | .r k,.e0=>.rs k []
 | .m k k2,.v (.map none) =>.rm k k2 []
 |_,s=>s
def xK:List Kd->List SV->List SV
 |k::ks,s::r=>GD k s::xK ks r
 |_,l=>l
def uD (k:Tag)(l:List SV):Option k.T:=bif uC (eH k) l then some (mkE k l)else none
def pr (k:Tag)(l:List SV):Option k.T:=uD k (xK (eH k) l)
inductive Pk where
 |st (k:Tag)
 |sl (k:Tag)
 |mp (k k2:Tag)
 |o
def Ab:Pk->SV->SV
 | .st k,.agg l=>.agg (xK (eH k) l)
 | .sl k,s=>GD (.r k) s
 | .mp k k2,s=>GD (.m k k2) s
 |_,s=>s
def bp:List Pk->List SV->List SV
 |p::ps,s::r=>Ab p s::bp ps r
 |_,l=>l
structure TI where
 size:Nat
 bytes:Nat
 agg:Bool
 zero:List SV
 fields:List (Nat×Nat×Bool)
 elem:Nat
 len:Nat
 isSlice:Bool
 isArr:Bool
 tag:Option Tag
 int:Option IntKind
 iface:Bool
 eq:List Nat
 mkt:Option Tag
 mvt:Option Tag
 sc:Nat
def svs (v:Value):List SV:=v.cells.toList.map .v
def oo (P:Program)(t:TypeId):Nat:=match P.info? t with|some i=>i.size|none=>0
def k9 (P:Program)(t:TypeId):Bool:=match P.underlying t with|some (.struct _) =>true|some (.array _ _) =>true|_=>false
def bR:Option TypeDesc->Nat
 |some (.int _) =>1
 |some .string=>2
 |some .bool=>3
 |_=>0
def eqFields (P:Program):Nat->List Field->Bool
 |_,[] =>true
 |n,f::r=>(f.name != "_")&&Nat.beq f.offset n&&Nat.blt 0 (bR (P.underlying f.type))&&eqFields P (n+1) r
def oM (P:Program)(t:TypeId)(d:TypeDesc):List Nat:=match d with
 | .struct fs=>bif !P.stoodInHeld t&& !P.eqGuardType P.depth t&&eqFields P 0 fs.toList then fs.toList.map fun f=>bR (P.underlying f.type)else []
 | .array n e=>bif !P.eqGuardType P.depth t&&Nat.blt 0 (bR (P.underlying e))&&Nat.beq (oo P e) 1 then List.replicate n (bR (P.underlying e))else []
 |_=>[]
def oq (P:Program)(t:TypeId):List Nat:=match P.underlying t with
 |some (.struct gs) =>bif !P.stoodInHeld t&&eqFields P 0 gs.toList&&Nat.beq (oo P t) gs.size&&(P.info? t).isSome then gs.toList.map fun f=>bR (P.underlying f.type)else []
 |d=>bif Nat.blt 0 (bR d)then [bR d]else []
def uE (P:Program):Nat->List Field->Bool
 |_,[] =>true
 |n,f::r=>(f.name != "_")&&Nat.beq f.offset n&&Nat.blt 0 (oq P f.type).length&&uE P (n+(oq P f.type).length) r
def E7 (P:Program)(t:TypeId)(d:TypeDesc):List Nat:=match d with
 | .struct fs=>bif !P.stoodInHeld t&& !P.eqGuardType P.depth t&&uE P 0 fs.toList then fs.toList.flatMap fun f=>oq P f.type else []
 |_=>[]
def M0 (P:Program)(t:TypeId)(d:TypeDesc):List Nat:=match oM P t d with
 | [] =>E7 P t d
 |l=>l
def J6:SV->SV->Bool
 | .v (.int k a),.v (.int k' b) =>Nat.beq (kN k) (kN k')&&(match a,b with| .ofNat 0,.ofNat 0=>true|_,_=>false)
 | .v (.string a),.v (.string b) =>Nat.beq a.size 0&&Nat.beq b.size 0
 | .v (.bool false),.v (.bool false) =>true
 | .rs _ [],.v (.slice none 0 0) =>true
 | .rm _ _ [],.v (.map none) =>true
 | .v .nilFunc,.v .nilFunc=>true
 |_,_=>false
def ue:List SV->List SV->Bool
 | [],[] =>true
 |a::r,b::s=>J6 a b&&ue r s
 |_,_=>false
def Ac:Bool->Bool->Bool
 |true,true=>true
 |false,false=>true
 |_,_=>false
def BY:Value->Bool
 | .agg _=>true
 |_=>false
def Ad (P:Program)(t:TypeId)(i:TypeInfo)(k:Tag):Bool:=
 (match i.zero with|some z=>Ac (BY z) (pn k) |none=>false)&&Nat.beq i.size (aa k)&&Nat.ble 1 i.bytes&&ue (cellsOf k (gw k)) (match i.zero with|some z=>svs z|none=>[])&&Ac (k9 P t) (pn k)
def xS (P:Program)(t:TypeId)(i:TypeInfo):Option Tag:=match Tag.ofName i.str with|some k=>bif Ad P t i k then some k else none|none=>none
def GF (P:Program)(t:TypeId):Option Tag:=match P.info? t with|some i=>xS P t i|none=>none
def iZ:Kd->Nat
 | .n _=>1
 | .s=>2
 | .b=>3
 |_=>0
def BZ:List Nat->List Nat->Bool
 | [],[] =>true
 |a::r,b::s=>Nat.beq a b&&BZ r s
 |_,_=>false
def Iy (P:Program)(t:TypeId)(k:Tag):Bool:=match P.underlying t with
 |some d=>bif k9 P t then BZ ((eH k).map iZ) (oM P t d)&&Nat.blt 0 (eH k).length else BZ ((eH k).map iZ) [bR (some d)]&&Nat.blt 0 (bR (some d))
 |none=>false
def GG (P:Program)(t:TypeId):Option Tag:=match GF P t with|some k=>bif Iy P t k then some k else none|none=>none
def dx (P:Program)(t:TypeId)(i:TypeInfo)(d:TypeDesc):TI:=
 {size:=i.size
  bytes:=i.bytes
  agg:=k9 P t
  zero:=match i.zero with|some z=>svs z|none=>[]
  fields:=match d with| .struct fs=>fs.toList.map fun f=>(f.offset,oo P f.type,k9 P f.type) |_=>[]
  elem:=match d with| .slice e=>e| .array _ e=>e| .map _ e=>e|_=>0
  len:=match d with| .array n _=>n|_=>0
  isSlice:=match d with| .slice _=>true|_=>false
  isArr:=match d with| .array _ _=>true|_=>false
  tag:=xS P t i
  int:=match d with| .int k=>some k|_=>none
  iface:=match d with| .interface _=>true|_=>false
  eq:=M0 P t d
  mkt:=match d with| .map k _=>GG P k|_=>none
  mvt:=match d with| .map _ e=>GF P e|_=>none
  sc:=bR (some d)}
def wx (P:Program)(d:TypeDesc):Bool:=match d with| .struct fs=>fs.toList.all fun f=>(P.info? f.type).isSome&&(P.underlying f.type).isSome|_=>true
def cU (P:Program)(t:TypeId):Option TI:=
 match P.info? t,P.underlying t with
 |some i,some d=>bif i.zero.isSome&&wx P d then some (dx P t i d)else none
 |_,_=>none
abbrev Tis:=TypeId->Option TI
def Tis.ok (ts:Tis)(P:Program):Prop:= ∀ t i,ts t=some i->cU P t=some i
inductive Ob where
 |cells (l:List SV)
 |dead
 |row (k:Tag) (l:List k.T)
 |mp (kk vk:Tag) (l:List (kk.T×vk.T)) (pend:Option (Nat×Option kk.T))
 |grid (k:Tag) (l:List (List k.T))
 |ab (r:Res)
 |raw (o:Obj)
 |mi (mid:Option Nat) (n:Nat) (left:List Nat) (cur:Option Nat)
 |fwd (n:Option Nat)
 |fz (k:Tag) (l:List k.T)
instance:Inhabited Ob:=⟨.dead⟩
structure St where
 t:List (Nat×SV)
 h:List Ob
 deriving Inhabited
def lk (t:Nat):List (Nat×SV)->SV
 | [] =>.any
 |(a,s)::r=>bif Nat.beq a t then s else lk t r
def St.put (st:St)(d:Option Nat)(s:SV):St:=match d with|some d=>⟨(d,s)::st.t,st.h⟩ |none=>st
def al:List Ob->Nat->Ob
 | [],_=>.dead
 |o::_,0=>o
 |_::r,n+1=>al r n
def bA:List Ob->Nat->Ob->List Ob
 | [],0,x=>[x]
 | [],n+1,x=>.dead::bA [] n x
 |_::r,0,x=>x::r
 |o::r,n+1,x=>o::bA r n x
abbrev Up:=Nat×Ob
def noE {κ:Type}:Option (Nat×Option κ)->Bool
 |some (_,some _) =>false
 |_=>true
def aS (h:List Ob):List Up->List Ob
 | [] =>h
 |(id,o)::r=>aS (bA h id o) r
inductive Con where
 |det (pre:Prop) (s:SV)
 |rel (α:Type) (pre:Prop) (post:α->Prop) (out:α->SV)
 |may (ok:Bool) (s:SV) (x:Value)
inductive Rs where
 |ret (s:SV) (h:List Ob)
 |pan (x:Value) (h:List Ob)
structure HCon where
 α:Type
 pre:Prop
 post:α->Prop
 res:α->Rs
structure YCon where
 α:Type
 pre:Prop
 post:α->Prop
 res:α->Bool×Res
structure Cons where
 p:FuncId->List SV->Option Con
 o:FuncId->List SV->List Ob->Option HCon
 y:List SV->Res->Option YCon
def qc:SV->Option (List SV)
 | .agg l=>some l
 | .v (.agg cs) =>some (cs.toList.map .v)
 | .v (.tuple _) =>none
 | .any=>none
 | .tup _=>none
 | .gd .. =>none
 | .nw .. =>none
 | .nm .. =>none
 | .ng .. =>none
 |s=>some [s]
def nth {α:Type}:List α->Nat->Option α
 | [],_=>none
 |x::_,0=>some x
 |_::r,n+1=>nth r n
def cut:Nat->List SV->List SV
 |0,_=>[]
 |_+1,[] =>[]
 |n+1,x::r=>x::cut n r
def GH:Nat->List SV->List SV
 |0,l=>l
 |_+1,[] =>[]
 |n+1,_::r=>GH n r
def sz:List SV->Nat
 | [] =>0
 |_::r=>sz r+1
def rI (agg:Bool)(size:Nat)(cells:List SV)(off:Nat):Option SV:=
 bif agg then(bif Nat.ble (off+size) (sz cells)then some (.agg (cut size (GH off cells)))else none)
 else nth cells off
def B2:List SV->Nat->SV->List SV
 | [],_,_=>[]
 |_::r,0,s=>s::r
 |x::r,n+1,s=>x::B2 r n s
def iq (cells:List SV)(off:Nat):List SV->List SV
 | [] =>cells
 |x::xs=>iq (B2 cells off x) (off+1) xs
section
variable {κ υ:Type}
def kR [DecidableEq κ]:List (κ×υ)->κ->Option υ
 | [],_=>none
 |(a,b)::r,x=>if x=a then some b else kR r x
def wy [DecidableEq κ]:List (κ×υ)->κ->υ->List (κ×υ)
 | [],x,y=>[(x,y)]
 |(a,b)::r,x,y=>if x=a then(x,y)::r else(a,b)::wy r x y
def Iz [DecidableEq κ]:List (κ×υ)->κ->Nat
 | [],_=>0
 |(a,_)::r,x=>if x=a then 0 else Iz r x+1
end
def dS (kk vk:Tag)(l:List (kk.T×vk.T))(x:kk.T):vk.T:=(kR l x).getD (gw vk)
def J7 (kk vk:Tag)(l:List (kk.T×vk.T))(x:kk.T):Bool:=(kR l x).isSome
def lF (kk vk:Tag)(l:List (kk.T×vk.T))(x:kk.T)(y:vk.T):List (kk.T×vk.T):=wy l x y
def Bf {κ υ:Type}[DecidableEq κ]:List (κ×υ)->κ->List (κ×υ)
 | [],_=>[]
 |(a,b)::r,x=>if x=a then r else(a,b)::Bf r x
def yU (kk vk:Tag)(l:List (kk.T×vk.T))(x:kk.T):List (kk.T×vk.T):=Bf l x
def r6 (kk vk:Tag)(l:List (kk.T×vk.T))(x:kk.T):Nat:=Iz l x
def XD (kk vk:Tag)(l:List (kk.T×vk.T))(x:kk.T):Option kk.T:=if(kR l x).isSome then none else some x
def svT (k:Tag)(x:k.T):SV:=bif pn k then .agg (cellsOf k x)else(nth (cellsOf k x) 0).getD .any
def AP (k:Tag):Option (List SV)->Option k.T
 |some l=>pr k l
 |none=>none
def yV:SV->Option (List SV)
 | .agg l=>some l
 | .v (.agg cs) =>some (cs.toList.map .v)
 |_=>none
def Ae:SV->Option (List SV)
 | .agg _=>none
 | .v (.agg _) =>none
 |s=>qc s
def unT (k:Tag)(s:SV):Option k.T:=bif pn k then AP k (yV s)else AP k (Ae s)
inductive OR where
 |val (s:SV)
 |chk (c:Prop) (s:SV)
 |asm (c:Prop) (s:SV)
 |newr (s:SV)
 |eff (c a:Prop) (ups:List Up) (s:SV)
 |call (f:FuncId) (args:List SV)
 |yld (id:Nat) (args:List SV)
 |nxt (id:Nat)
 |amb (p:Bool->Prop)
 |pan (x:Value)
 |bad
structure Cx where
 ts:Tis
 ops:List Oper
 g:Option (Nat×Bool)
 st:St
 nx:Nat
def qL (ops:List Oper):Nat->Option (Nat×Bool)->Nat->Bool->Bool
 |0,_,_,_=>false
 |_+1,none,_,_=>false
 |n+1,some (j,b),j',b'=>bif Nat.beq j j'&&Ac b b' then true else qL ops n ((nth ops j).bind (·.guard)) j' b'
def bg (ops:List Oper)(g:Option (Nat×Bool)):SV->SV
 | .gd j b s=>bif qL ops ops.length g j b then s else .any
 | .any=>.any
 | .v x=>.v x
 | .ptr a b=>.ptr a b
 | .os a=>.os a
 | .e0=>.e0
 | .rc a b=>.rc a b
 | .rp a b c d=>.rp a b c d
 | .gr a b=>.gr a b
 | .gp a b c d e=>.gp a b c d e
 | .ep a b=>.ep a b
 | .rs k l=>.rs k l
 | .ls l=>.ls l
 | .rm k k2 l=>.rm k k2 l
 | .agg l=>.agg l
 | .tup l=>.tup l
 | .fn f l m=>.fn f l m
 | .nw k l=>.nw k l
 | .nm k k2 l=>.nm k k2 l
 | .ng k l=>.ng k l
 | .vw a b c d=>.vw a b c d
def raw (t:List (Nat×SV)):Operand->SV
 | .tmp n=>lk n t
 | .const x=>.v x
 | .func f=>.fn f [] []
 | .global _=>.any
def val (cx:Cx)(x:Operand):SV:=bg cx.ops cx.g (raw cx.st.t x)
def cP (cx:Cx):List Operand->List SV
 | [] =>[]
 |x::r=>val cx x::cP cx r
def pm (cx:Cx):Option Operand->Option SV
 |some x=>some (val cx x)
 |none=>none
def ir (cx:Cx):List (Nat×Operand)->List (Nat×SV)
 | [] =>[]
 |(i,x)::r=>(i,val cx x)::ir cx r
def isTrue:Operand->Bool
 | .const (.bool true) =>true
 |_=>false
def isFalse:Operand->Bool
 | .const (.bool false) =>true
 |_=>false
def Ec (ops:List Oper)(j:Nat)(c:Operand):Bool:=
 match (nth ops j).bind (·.dst),c with
 |some d,.tmp t=>Nat.beq d t
 |_,_=>false
def lG (ops:List Oper)(g:Option (Nat×Bool))(c:Operand)(want:Bool):SV->SV
 | .gd j b s=>bif Ac b want&&Ec ops j c then s else bg ops g (.gd j b s)
 |s=>bg ops g s
def B3 (a b:Operand):SV->SV->SV->OR
 | .v (.bool x),.v (.bool y),.v (.bool z) =>bif isTrue a then .val (.b (x||z))else bif isFalse b then .val (.b (x&&y))else .bad
 | .v (.bool x),.any,.v (.bool z) =>.chk (x=false) (.b z)
 | .v (.bool x),.v (.bool y),.any=>.chk (x=true) (.b y)
 |_,_,_=>.bad
def XE (k:IntKind)(a b:Int):Int:=a.fdiv (2 ^ min b.toNat k.bits)
def Af (k:IntKind)(a b:Int):Int:=k.wrap (a*2 ^ min b.toNat k.bits)
def wi (k:IntKind)(a b:Int):Int:=k.wrap ((BitVec.ofInt k.bits a&&&BitVec.ofInt k.bits b).toNat:Int)
def orI (k:IntKind)(a b:Int):Int:=k.wrap ((BitVec.ofInt k.bits a|||BitVec.ofInt k.bits b).toNat:Int)
def XF (k:IntKind)(a b:Int):Int:=k.wrap ((BitVec.ofInt k.bits a ^^^ BitVec.ofInt k.bits b).toNat:Int)
def nJ (k:IntKind)(a b:Int):Int:=k.wrap ((BitVec.ofInt k.bits a&&& ~~~(BitVec.ofInt k.bits b)).toNat:Int)
def uF (op:BinOp)(k:IntKind)(a b:Int):OR:=
 match op with
 | .add=>.val (.v (.int k (k.wrap (a+b))))
 | .sub=>.val (.v (.int k (k.wrap (a - b))))
 | .mul=>.val (.v (.int k (k.wrap (a*b))))
 | .quo=>.chk (b≠0) (.v (.int k (k.wrap (a.tdiv b))))
 | .rem=>.chk (b≠0) (.v (.int k (a.tmod b)))
 | .shr=>.chk (0<=b) (.v (.int k (XE k a b)))
 | .shl=>.chk (0<=b) (.v (.int k (Af k a b)))
 | .and=>.val (.v (.int k (wi k a b)))
 | .or=>.val (.v (.int k (orI k a b)))
 | .xor=>.val (.v (.int k (XF k a b)))
 | .andNot=>.val (.v (.int k (nJ k a b)))
 | .eql=>.val (.v (.bool (a==b)))
 | .neq=>.val (.v (.bool (a !=b)))
 | .lss=>.val (.v (.bool (decide (a<b))))
 | .leq=>.val (.v (.bool (decide (a<=b))))
 | .gtr=>.val (.v (.bool (decide (a > b))))
 | .geq=>.val (.v (.bool (decide (a>=b))))
def J8 (op:BinOp)(a b:ByteArray):OR:=
 match op with
 | .eql=>.val (.v (.bool (a==b)))
 | .neq=>.val (.v (.bool (a !=b)))
 |_=>.bad
def E8 (op:BinOp)(a b:Bool):OR:=
 match op with
 | .eql=>.val (.v (.bool (a==b)))
 | .neq=>.val (.v (.bool (a !=b)))
 |_=>.bad
def eqV (c:Nat):SV->SV->Option Bool
 | .v (.int k a),.v (.int k' b) =>bif Nat.beq c 1&&Nat.beq (kN k) (kN k')then some (a==b)else none
 | .v (.string a),.v (.string b) =>bif Nat.beq c 2 then some (a==b)else none
 | .v (.bool a),.v (.bool b) =>bif Nat.beq c 3 then some (a==b)else none
 |_,_=>none
def yi:Option Bool->Option Bool->Option Bool
 |some a,some b=>some (a&&b)
 |_,_=>none
def eqL:List Nat->List SV->List SV->Option Bool
 | [],[],[] =>some true
 |c::cs,x::r,y::s=>yi (eqV c x y) (eqL cs r s)
 |_,_,_=>none
def eqO (op:BinOp):Option Bool->OR
 |some b=>match op with| .eql=>.val (.v (.bool b)) | .neq=>.val (.v (.bool !b)) |_=>.bad
 |none=>.bad
def Tp (op:BinOp)(l m:List SV):List Nat->OR
 | [] =>.bad
 |c::cs=>eqO op (eqL (c::cs) l m)
def aC (ts:Tis)(t:TypeId)(k:TI->OR):OR:=match ts t with|some i=>k i|none=>.bad
def eqT (op:BinOp)(l m:List SV)(ti:TI):OR:=Tp op l m ti.eq
def yW (op:BinOp)(k k':IntKind):Bool:=
 match op with
 | .shl=>true
 | .shr=>true
 |_=>Nat.beq (kN k) (kN k')
def Tq (op:BinOp):SV->SV->OR
 | .v (.int k a),.v (.int k' b) =>bif yW op k k' then uF op k a b else .bad
 |_,_=>.bad
def P8 (op:BinOp)(p:Prop):OR:=
 match op with
 | .eql=>.amb fun b=>b=true->p
 | .neq=>.amb fun b=>b=false->p
 |_=>.bad
def eqS (op:BinOp)(ti:TI):SV->SV->OR
 | .rs _ l,.v (.slice none 0 0) =>bif ti.isSlice then P8 op (l=[])else .bad
 | .v (.string a),.v (.string b) =>bif Nat.beq ti.sc 2 then J8 op a b else .bad
 | .v (.bool a),.v (.bool b) =>bif Nat.beq ti.sc 3 then E8 op a b else .bad
 | .agg l,.agg m=>eqT op l m ti
 |_,_=>.bad
def E9 (ts:Tis)(op:BinOp)(t:TypeId):SV->SV->OR
 | .v (.int k a),.v (.int k' b) =>Tq op (.v (.int k a)) (.v (.int k' b))
 |a,b=>aC ts t fun ti=>eqS op ti a b
def unS:UnOp->SV->OR
 | .not,.v (.bool b) =>.val (.v (.bool !b))
 | .neg,.v (.int k n) =>.val (.v (.int k (k.wrap (0 - n))))
 |_,_=>.bad
def uG:Option SV->OR
 |some s=>.val s
 |none=>.bad
def B4 (agg:Bool)(size szt:Nat)(id:Nat)(i:Int)(off:Nat):Ob->OR
 | .row k l=>bif Nat.beq szt (aa k)then uG (rI agg size (cellsOf k (l.getD i.toNat (gw k))) off)else .bad
 | .grid _ _=>bif Nat.beq szt 1&&Nat.beq off 0&& !agg then .val (.gr id i)else .bad
 |_=>.bad
def Ag (agg:Bool)(size szt:Nat)(i j:Int)(off:Nat):Ob->OR
 | .grid k l=>bif Nat.beq szt (aa k)then uG (rI agg size (cellsOf k ((l.getD i.toNat []).getD j.toNat (gw k))) off)else .bad
 |_=>.bad
def yX (agg:Bool)(size off:Nat):Ob->OR
 | .cells l=>uG (rI agg size l off)
 |_=>.bad
def qT (ti:TI)(h:List Ob):SV->OR
 | .ptr id off=>yX ti.agg ti.size off (al h id)
 | .ep l off=>uG (rI ti.agg ti.size l off)
 | .rp s id i off=>B4 ti.agg ti.size s id i off (al h id)
 | .gp s id i j off=>Ag ti.agg ti.size s i j off (al h id)
 |_=>.bad
def yY (n:Nat):SV->OR
 | .ptr id off=>.val (.ptr id (off+n))
 | .ep l off=>.val (.ep l (off+n))
 | .rp s id i off=>.val (.rp s id i (off+n))
 | .gp s id i j off=>.val (.gp s id i j (off+n))
 |_=>.bad
def B5 (esz id:Nat)(i:Int):Ob->OR
 | .row k l=>bif Nat.beq esz (aa k)then .chk (0<=i/\i< (l.length:Int)) (.rp esz id i 0)else .bad
 | .grid _ l=>bif Nat.beq esz 1 then .chk (0<=i/\i< (l.length:Int)) (.rp 1 id i 0)else .bad
 |_=>.bad
def E_ (esz id:Nat)(i j:Int):Ob->OR
 | .grid k l=>bif Nat.beq esz (aa k)then .chk (0<=j/\j< ((l.getD i.toNat []).length:Int)) (.gp esz id i j 0)else .bad
 |_=>.bad
def IA (i:Int):Option SV->OR
 |some s=>.chk (0<=i) (.ep [s] 0)
 |none=>.bad
def iD (ti:TI)(esz:Nat)(h:List Ob):SV->SV->OR
 | .rs k l,.v (.int _ i) =>bif ti.isSlice&&Nat.beq esz (aa k)then .chk (0<=i/\i< (l.length:Int)) (.ep (cellsOf k (l.getD i.toNat (gw k))) 0)else .bad
 | .os id,.v (.int _ i) =>bif ti.isSlice then B5 esz id i (al h id)else .bad
 | .gr id i,.v (.int _ j) =>bif ti.isSlice then E_ esz id i j (al h id)else .bad
 | .ls l,.v (.int _ i) =>bif ti.isSlice&&Nat.beq esz 1 then IA i (nth l i.toNat)else .bad
 | .ptr id off,.v (.int _ i) =>bif ti.isArr then .chk (0<=i/\i< (ti.len:Int)) (.ptr id (off+i.toNat*esz))else .bad
 | .ep l off,.v (.int _ i) =>bif ti.isArr then .chk (0<=i/\i< (ti.len:Int)) (.ep l (off+i.toNat*esz))else .bad
 | .rp s id i off,.v (.int _ j) =>bif ti.isArr then .chk (0<=j/\j< (ti.len:Int)) (.rp s id i (off+j.toNat*esz))else .bad
 |_,_=>.bad
def mE (place:Nat->Option (Nat×Nat))(cells:List SV):List (Nat×SV)->Option (List SV)
 | [] =>some cells
 |(i,v)::rest=>
  match place i,qc v with
  |some (off,size),some vs=>bif Nat.beq (sz vs) size&&Nat.ble (off+size) (sz cells)then mE place (iq cells off vs) rest else none
  |_,_=>none
def r7 (k:Tag)(size:Nat):Nat->List SV->Option (List k.T)
 |0,_=>some []
 |n+1,cells=>match pr k (cut size cells),r7 k size n (GH size cells)with
  |some x,some xs=>some (x::xs)
  |_,_=>none
def Bg (n:Nat)(z:List SV):List SV:=match n with|0=>[] |n+1=>z++Bg n z
def sI (f:Option (Nat×Nat×Bool))(l:Option (List SV)):OR:=
 match f,l with
 |some (o,n,g),some l=>uG (rI g n l o)
 |_,_=>.bad
def IB:SV->Bool
 | .v (.agg _) =>false
 | .v (.tuple _) =>false
 | .any=>false
 | .agg _=>false
 | .tup _=>false
 | .gd .. =>false
 | .nw .. =>false
 | .nm .. =>false
 | .ng .. =>false
 |_=>true
def vp:List SV->Bool
 | [] =>true
 |x::r=>IB x&&vp r
def IC (k:Tag)(id:Nat)(i:Int)(l:List k.T):Option k.T->OR
 |some x=>.eff True True [(id,.row k (l.set i.toNat x))] .any
 |none=>.bad
def Fa (k:Tag)(id:Nat)(i j:Int)(l:List (List k.T)):Option k.T->OR
 |some x=>.eff True True [(id,.grid k (l.set i.toNat ((l.getD i.toNat []).set j.toNat x)))] .any
 |none=>.bad
def ID (id off:Nat)(vs:List SV):Ob->OR
 | .cells l=>bif Nat.ble (off+sz vs) (sz l)&&vp vs then .eff True True [(id,.cells (iq l off vs))] .any else .bad
 |_=>.bad
def IE (s id:Nat)(i:Int)(off:Nat)(vs:List SV):Ob->OR
 | .row k l=>bif Nat.beq s (aa k)&&Nat.ble (off+sz vs) s then IC k id i l (pr k (iq (cellsOf k (l.getD i.toNat (gw k))) off vs))else .bad
 |_=>.bad
def IF (s id:Nat)(i j:Int)(off:Nat)(vs:List SV):Ob->OR
 | .grid k l=>bif Nat.beq s (aa k)&&Nat.ble (off+sz vs) s then Fa k id i j l (pr k (iq (cellsOf k ((l.getD i.toNat []).getD j.toNat (gw k))) off vs))else .bad
 |_=>.bad
def rJ (size:Nat)(h:List Ob):SV->Option (List SV)->OR
 | .ptr id off,some vs=>bif Nat.beq (sz vs) size then ID id off vs (al h id)else .bad
 | .rp s id i off,some vs=>bif Nat.beq (sz vs) size then IE s id i off vs (al h id)else .bad
 | .gp s id i j off,some vs=>bif Nat.beq (sz vs) size then IF s id i j off vs (al h id)else .bad
 |_,_=>.bad
def Fb:Ob->Bool
 | .grid _ _=>true
 |_=>false
def M1 (k:Tag)(nx id rid:Nat)(i:Int)(l:List (List k.T)):Option (List k.T)->OR
 |some m=>.eff True True [(id,.dead),(rid,.dead),(nx,.grid k (l.set i.toNat m)),(id,.fwd (some nx))] .any
 |none=>.bad
def IG (k:Tag):Ob->Option (List k.T)
 | .row k' l=>if h:k'=k then some (h▸l)else none
 |_=>none
def B6 (nx:Nat)(h:List Ob)(id rid:Nat)(i:Int):Ob->OR
 | .grid k l=>M1 k nx id rid i l (IG k (al h rid))
 |_=>.bad
def rK (size nx:Nat)(h:List Ob):SV->SV->OR
 | .rp s id i off,.os rid=>bif Fb (al h id)then(bif Nat.beq size 1&&Nat.beq s 1&&Nat.beq off 0&& !(Nat.beq id rid)then B6 nx h id rid i (al h id)else .bad)else rJ size h (.rp s id i off) (qc (.os rid))
 |a,x=>rJ size h a (qc x)
def M2:SV->OR
 | .ptr id off=>.val (.ptr id off)
 | .ep l off=>.val (.ep l off)
 | .rp a b c d=>.val (.rp a b c d)
 | .gp a b c d e=>.val (.gp a b c d e)
 | .fn f first caps=>.val (.fn f first caps)
 |_=>.bad
def GI:Option IntKind->SV->OR
 |some k,.v (.int _ n) =>.val (.v (.int k (k.wrap n)))
 |_,_=>.bad
def Fc (nx:Nat):Option (List SV)->OR
 |some l=>.eff True True [(nx,.cells l)] (.ptr nx 0)
 |none=>.bad
def IH:Option (List SV)->OR
 |some l=>.val (.agg l)
 |none=>.bad
def M3 (k:Tag):Option (List k.T)->OR
 |some xs=>.newr (.rs k xs)
 |none=>.bad
def lsS (n:Nat)(l:List SV):OR:=bif Nat.beq (sz l) n&&vp l then .newr (.ls l)else .bad
def bsT (k:Tag)(ti te:TI)(n:Nat):Option (List SV)->OR
 |some l=>bif Nat.beq te.size (aa k)&&ti.isSlice&&Nat.ble (n*te.size) 16777216&&Nat.beq (sz te.zero) te.size then M3 k (r7 k te.size n l)else .bad
 |none=>.bad
def bsU (ti te:TI)(n:Nat):Option (List SV)->OR
 |some l=>bif Nat.beq te.size 1&&ti.isSlice&&Nat.ble (n*te.size) 16777216&&Nat.beq (sz te.zero) te.size then lsS n l else .bad
 |none=>.bad
def noG:Option (Nat×Bool)->Bool
 |none=>true
 |some _=>false
def XG:Op->Bool
 | .call ⟨.value _,_,_⟩ =>true
 |_=>false
def XH:Op->Bool
 | .call ⟨.builtin .append,_,_⟩ =>true
 |_=>false
def M4:List Oper->Bool
 | [] =>false
 |o::r=>XG o.op||M4 r
def J9:List Oper->Bool
 | [] =>false
 |o::r=>XH o.op||J9 r
def XI:Op->Bool
 | .call ⟨.builtin .clear,_,_⟩ =>true
 |_=>false
def M5:List Oper->Bool
 | [] =>false
 |o::r=>XI o.op||M5 r
def Tr:Op->Bool
 | .slice .. =>true
 |_=>false
def II:List Oper->Bool
 | [] =>false
 | [o] =>Tr o.op
 |_::r=>II r
def J_:List Oper->List Nat
 | [] =>[]
 |o::r=>bif Tr o.op then o.dst.toList++J_ r else J_ r
def GJ (ds:List Nat):List Operand->Bool
 | [] =>false
 | .tmp d::r=>ds.any (Nat.beq d) ||GJ ds r
 |_::r=>GJ ds r
def M6:Op->List Operand
 | .call ⟨.value _,args,_⟩ =>args.toList
 |_=>[]
def Ts (ds:List Nat):List Oper->Bool
 | [] =>false
 |o::r=>GJ ds (M6 o.op) ||Ts ds r
def GK (ops:List Oper):Bool:=J9 ops||M5 ops||II ops||Ts (J_ ops) ops
def XJ (ops:List Oper)(g:Option (Nat×Bool)):Option (Nat×Bool):=bif J9 ops&&M4 ops then some (0,true)else g
def Tt:List (Nat×Operand)->List Operand
 | [] =>[]
 |(_,x)::r=>x::Tt r
def M7:Op->List Operand
 | .build _ parts=>Tt parts.toList
 |_=>[]
def Tu (ds:List Nat):List Oper->Bool
 | [] =>false
 |o::r=>GJ ds (M7 o.op) ||Tu ds r
def XK (t:TypeId):Op->Bool
 | .buildSlice t' _ _=>Nat.beq t t'
 |_=>false
def Ka (t:TypeId):List Oper->List Nat
 | [] =>[]
 |o::r=>bif XK t o.op then o.dst.toList++Ka t r else Ka t r
def Sq:Bool:=true
def DI (t:TypeId)(ops:List Oper)(g:Option (Nat×Bool)):Option (Nat×Bool):=bif Sq&&Tu (Ka t ops) ops then some (0,true)else XJ ops g
def XL:SV->Bool
 | .os _=>true
 |_=>false
def osL:List SV->Bool
 | [] =>false
 |s::r=>XL s||osL r
def osV:SV->Bool
 | .os _=>true
 | .agg l=>osL l
 |_=>false
def M8:List (Nat×SV)->Bool
 | [] =>false
 |(_,s)::r=>osV s||M8 r
def bsG (ti te:TI)(n:Nat)(l:Option (List SV))(os:Bool):Option Tag->OR
 |some k=>bif os then bsU ti te n l else bsT k ti te n l
 |none=>bsU ti te n l
def Sr:List Kd->Bool
 | [.f] =>true
 |_=>false
def P9:Option Tag->Option Tag
 |some k=>bif Sr (eH k)then none else some k
 |none=>none
def bsS (ti te:TI)(n:Nat)(parts:List (Nat×SV)):OR:=
 bif Nat.beq n 0 then(bif ti.isSlice&&parts.isEmpty then .newr .e0 else .bad)
 else bsG ti te n (mE (fun i=>some (i*te.size,te.size)) (Bg n te.zero) parts) (M8 parts) (P9 te.tag)
def one {α:Type}:List α->Bool
 | [_] =>true
 |_=>false
def DJ (g:Option (Nat×Bool))(nx:Nat)(te:TI):OR->OR
 | .newr (.rs k l) =>bif(te.agg||one l)&&noG g then .eff True True [(nx,.row k l)] (.os nx)else .newr (.rs k l)
 |r=>r
def M9 (i:Nat):SV->OR
 | .tup l=>uG (nth l i)
 |_=>.bad
def yZ (args:List SV):SV->OR
 | .fn g first caps=>.call g (first++args++caps)
 | .os id=>.yld id args
 |_=>.bad
def aD:Nat:=140737488355328
def M_:Ob->OR
 | .row _ l=>.asm (l.length<=aD) (.i l.length)
 | .grid _ l=>.asm (l.length<=aD) (.i l.length)
 |_=>.bad
def P_ (i:Int):Ob->OR
 | .grid _ l=>.asm ((l.getD i.toNat []).length<=aD) (.i (l.getD i.toNat []).length)
 |_=>.bad
def Qa (m:Option Tag):Ob->OR
 | .mp _ _ l p=>bif m.isSome&&noE p then .val (.i l.length)else .bad
 |_=>.bad
def uf (ti:TI)(h:List Ob):List SV->OR
 | [.rs _ l] =>bif ti.isSlice then .asm (l.length<=aD) (.i l.length)else .bad
 | [.v (.slice none 0 0)] =>bif ti.isSlice then .val (.i 0)else .bad
 | [.e0] =>bif ti.isSlice then .val (.i 0)else .bad
 | [.rc _ l] =>bif ti.isSlice then .asm (l.length<=aD) (.i l.length)else .bad
 | [.os id] =>bif ti.isSlice then M_ (al h id)else Qa ti.mkt (al h id)
 | [.gr id i] =>bif ti.isSlice then P_ i (al h id)else .bad
 | [.ls l] =>bif ti.isSlice then .val (.i (sz l))else .bad
 |_=>.bad
def Fd:List SV->OR
 | [.v (.int k a),.v (.int _ b)] =>.val (.v (.int k (if b<a then b else a)))
 |_=>.bad
def Fe:List SV->OR
 | [.v (.int k a),.v (.int _ b)] =>.val (.v (.int k (if a<b then b else a)))
 |_=>.bad
def Na:SV->OR
 | .v (.iface t y) =>.pan (.iface t y)
 |_=>.bad
def B7 (t:TypeId):SV->OR
 | .v (.int k n) =>.val (.v (.iface t (.int k n)))
 |_=>.bad
def GL (fn:Fn)(first caps:List SV):OR:=
 match fn with
 | .func f=>.val (.fn f first caps)
 |_=>.bad
def c6:Nat:=140737488355328
def Kb (a:Tag):Option Tag->Bool
 |some b=>Nat.beq (yS a) (yS b)
 |none=>false
def xT (k:Tag)(k':Tag)(l:List k'.T):Option (List k.T):=if h:k'=k then some (h▸l)else none
def LD (k:Tag):Ob->Option (List k.T)
 | .row k' l=>xT k k' l
 |_=>none
def Qb (k:Tag)(s:Nat)(lo hi:Int):Ob->Option (List k.T)
 | .row k' l=>bif Nat.beq s (aa k')then xT k k' ((l.take hi.toNat).drop lo.toNat)else none
 |_=>none
def tB (k:Tag)(h:List Ob):SV->Option (List k.T)
 | .rs k' l=>xT k k' l
 | .v (.slice none 0 0) =>some []
 | .e0=>some []
 | .os id=>LD k (al h id)
 | .vw s id lo hi=>Qb k s lo hi (al h id)
 |_=>none
def Nb (k:Tag)(nx bytes:Nat)(kill:List Up)(l:List k.T):Option (List k.T)->OR
 |some m=>.eff ((l++m).length*bytes<=c6) ((l++m).length<=aD) (kill++[(nx,.row k (l++m))]) (.os nx)
 |none=>.bad
def vr (te:TI)(nx:Nat)(kill:List Up)(h:List Ob)(src:SV):Ob->OR
 | .row k l=>bif Nat.beq te.size (aa k)&&Nat.beq (sz te.zero) te.size&&Nat.ble 1 te.bytes then Nb k nx te.bytes kill l (tB k h src)else .bad
 |_=>.bad
def B8 (k:Tag)(nx bytes id2:Nat)(kill:List Up)(l:List (List k.T)):Option (List k.T)->OR
 |some m=>.eff ((l++[m]).length*bytes<=c6) ((l++[m]).length<=aD) (kill++[(id2,.dead),(nx,.grid k (l++[m]))]) (.os nx)
 |none=>.bad
def AQ (nx bytes:Nat)(h:List Ob)(id2:Nat)(kill:List Up):Ob->OR
 | .grid k l=>B8 k nx bytes id2 kill l (LD k (al h id2))
 |_=>.bad
def Nc (nx bytes id2:Nat):Ob->OR
 | .row k m=>B8 k nx bytes id2 [] [] (some m)
 |_=>.bad
def vt (te:TI)(nx:Nat)(h:List Ob)(src:SV):Option Tag->OR
 |some k=>vr te nx [] h src (.row k [])
 |none=>.bad
def Nd (te:TI)(id:Nat):Ob->OR
 | .row k l=>bif Nat.beq te.size (aa k)&&Nat.beq (sz te.zero) te.size&&Nat.ble 1 te.bytes then .eff ((l++l).length*te.bytes<=c6) ((l++l).length<=aD) [(id,.fz k l)] (.rs k (l++l))else .bad
 |_=>.bad
def GM (k:Tag)(nx bytes:Nat)(l:List k.T):Option (List k.T)->OR
 |some (x::m) =>.eff ((l++x::m).length*bytes<=c6) ((l++x::m).length<=aD) [(nx,.row k (l++x::m))] (.os nx)
 |_=>.bad
def LF (te:TI)(nx:Nat)(h:List Ob)(src:SV)(k:Tag)(l:List k.T):OR:=bif Nat.beq te.size (aa k)&&Nat.beq (sz te.zero) te.size&&Nat.ble 1 te.bytes then GM k nx te.bytes l (tB k h src)else .bad
def oa (te:TI)(nx:Nat)(h:List Ob):List SV->OR
 | [.os id,.ls [.os id2]] =>bif Nat.beq te.size 1&&Nat.beq (sz te.zero) 1&&Nat.ble 1 te.bytes&& !(Nat.beq id id2)then AQ nx te.bytes h id2 [(id,.dead)] (al h id)else .bad
 | [.v (.slice none 0 0),.ls [.os id2]] =>bif Nat.beq te.size 1&&Nat.beq (sz te.zero) 1&&Nat.ble 1 te.bytes then Nc nx te.bytes id2 (al h id2)else .bad
 | [.os id,.os id2] =>bif Nat.beq id id2 then Nd te id (al h id)else vr te nx [(id,.dead)] h (.os id2) (al h id)
 | [.os id,src] =>vr te nx [(id,.dead)] h src (al h id)
 | [.v (.slice none 0 0),src] =>vt te nx h src te.tag
 | [.e0,src] =>vt te nx h src te.tag
 | [.rc k l,src] =>LF te nx h src k l
 |_=>.bad
def B9 (k:Tag)(l:List k.T)(lo hi:Int):List k.T:=if hi.toNat<=lo.toNat then l else l.take lo.toNat++List.replicate (hi.toNat - lo.toNat) (gw k)++l.drop hi.toNat
def Tv (te:TI)(s id:Nat)(lo hi:Int):Ob->OR
 | .row k l=>bif Nat.beq s (aa k)&&Kb k te.tag then .eff True True [(id,.row k (B9 k l lo hi))] .any else .bad
 |_=>.bad
def yj (ti te:TI)(h:List Ob):List SV->OR
 | [.vw s id lo hi] =>bif ti.isSlice then Tv te s id lo hi (al h id)else .bad
 |_=>.bad
def mkT (nx:Nat)(n c:Int)(te:TI):Option Tag->OR
 |some k=>.eff (n=c/\0<=n/\n*te.bytes<=c6) (n<=aD) [(nx,.row k (List.replicate n.toNat (gw k)))] (.os nx)
 |none=>.bad
def mkS (nx:Nat)(te:TI):SV->SV->OR
 | .v (.int .i64 n),.v (.int .i64 c) =>mkT nx n c te te.tag
 |_,_=>.bad
def Nf:List SV->Bool
 | [.v (.slice none 0 0)] =>true
 |_=>false
def Qc (nx:Nat)(n c:Int)(te:TI):Option Tag->OR
 |some k=>bif Nat.beq te.size 1&&Nf te.zero&&Nat.ble 1 te.bytes then .eff (n=c/\0<=n/\n*te.bytes<=c6) (n<=aD) [(nx,.grid k (List.replicate n.toNat []))] (.os nx)else .bad
 |none=>.bad
def DK (nx:Nat)(te tr:TI):SV->SV->OR
 | .v (.int .i64 n),.v (.int .i64 c) =>Qc nx n c te tr.tag
 |_,_=>.bad
def bnd (d:Int):Option SV->Option Int
 |none=>some d
 |some (.v (.int _ n)) =>some n
 |_=>none
def Ng (k:Tag)(l:List k.T):Option Int->Option Int->OR
 |some lo,some hi=>.chk (0<=lo/\lo<=hi/\hi<=(l.length:Int)) (.rs k ((l.take hi.toNat).drop lo.toNat))
 |_,_=>.bad
def Qd (id nx:Nat)(k:Tag)(l:List k.T):Option Int->Option Int->OR
 |some lo,some hi=>.eff (0<=lo/\lo<=hi/\hi<=(l.length:Int)) True [(id,.dead),(nx,.row k ((l.take hi.toNat).drop lo.toNat))] (.os nx)
 |_,_=>.bad
def Nh (esz id nx:Nat)(lo hi:Option SV):Ob->OR
 | .row k l=>bif Nat.beq esz (aa k)then Qd id nx k l (bnd 0 lo) (bnd l.length hi)else .bad
 |_=>.bad
def Ni (esz id n:Nat):Option Int->OR
 |some a=>.chk (0<=a/\a<=(n:Int)) (.vw esz id a n)
 |none=>.bad
def Kc (esz id:Nat)(lo:Option SV):Ob->OR
 | .row k l=>bif Nat.beq esz (aa k)then Ni esz id l.length (bnd 0 lo)else .bad
 |_=>.bad
def oc (ti:TI)(esz nx:Nat)(h:List Ob)(lo hi:Option SV)(vq:Bool):SV->OR
 | .rs k l=>bif ti.isSlice&&Nat.beq esz (aa k)then Ng k l (bnd 0 lo) (bnd l.length hi)else .bad
 | .os id=>bif ti.isSlice then(bif vq then Kc esz id lo (al h id)else Nh esz id nx lo hi (al h id))else .bad
 |_=>.bad
def Ss (ti:TI):Option SV->Option SV->SV->SV->OR
 |none,some (.v (.int .i64 0)),.v (.int .i64 0),.v (.slice none 0 0) =>bif ti.isSlice then .val (.v (.slice none 0 0))else .bad
 |_,_,_,_=>.bad
def Su (ti:TI)(k:Tag)(l:List k.T):Option SV->Option SV->SV->OR
 |none,some (.v (.int .i64 a)),.v (.int .i64 b) =>bif ti.isSlice then .chk (a=(l.length:Int)/\b=(l.length:Int)) (.rc k l)else .bad
 |_,_,_=>.bad
def B_ (ti:TI)(lo hi:Option SV)(m:SV):SV->OR
 | .rs k l=>Su ti k l lo hi m
 |x=>Ss ti lo hi m x
def Ca (kk vk:Tag)(l:List (kk.T×vk.T))(ok:Bool):Option kk.T->OR
 |some x=>bif ok then .val (.tup [svT vk (dS kk vk l x),.b (J7 kk vk l x)])else .val (svT vk (dS kk vk l x))
 |none=>.bad
def kS (a:Tag):Option Tag->Bool
 |some b=>Nat.beq (yS a) (yS b)
 |none=>false
def Ed {α:Type}:Option α->Bool
 |none=>true
 |some _=>false
def GN (ti:TI)(key:SV)(ok:Bool):Ob->OR
 | .mp kk vk l pend=>bif kS kk ti.mkt&&kS vk ti.mvt&&(!ok||noE pend)then Ca kk vk l ok (unT kk key)else .bad
 |_=>.bad
def Ke (key:SV)(ok:Bool):Option Tag->Option Tag->OR
 |some kk,some vk=>Ca kk vk [] ok (unT kk key)
 |_,_=>.bad
def tG (ti:TI)(h:List Ob)(ok:Bool)(key:SV):SV->OR
 | .os id=>GN ti key ok (al h id)
 | .rm kk vk l=>bif kS kk ti.mkt&&kS vk ti.mvt then Ca kk vk l ok (unT kk key)else .bad
 | .v (.map none) =>Ke key ok ti.mkt ti.mvt
 |_=>.bad
def Tw (id:Nat)(kk vk:Tag)(l:List (kk.T×vk.T)):Option kk.T->Option vk.T->OR
 |some x,some y=>.eff True True [(id,.mp kk vk (lF kk vk l x y) none)] .any
 |_,_=>.bad
def Tx (ti:TI)(id:Nat)(key v:SV):Ob->OR
 | .mp kk vk l p=>bif kS kk ti.mkt&&kS vk ti.mvt&&noE p then Tw id kk vk l (unT kk key) (unT vk v)else .bad
 |_=>.bad
def Bh (ti:TI)(h:List Ob)(key v:SV):SV->OR
 | .os id=>Tx ti id key v (al h id)
 |_=>.bad
def LG (id nx:Nat)(kk vk:Tag)(l:List (kk.T×vk.T)):Option kk.T->OR
 |some x=>.eff True True [(nx,.fwd none),(id,.mp kk vk l (some (nx,some x)))] (.tup [svT vk (dS kk vk l x),.os nx])
 |none=>.bad
def LH (ti:TI)(id nx:Nat)(key:SV):Ob->OR
 | .mp kk vk l p=>bif kS kk ti.mkt&&kS vk ti.mvt&&noE p then LG id nx kk vk l (unT kk key)else .bad
 |_=>.bad
def xL (ti:TI)(nx:Nat)(h:List Ob)(key:SV):SV->OR
 | .os id=>LH ti id nx key (al h id)
 |_=>.bad
def Tz (id:Nat)(kk vk:Tag)(l:List (kk.T×vk.T))(x:kk.T):Option vk.T->OR
 |some y=>.eff True True [(id,.mp kk vk (lF kk vk l x y) none)] .any
 |none=>.bad
def Qe (ti:TI)(id n:Nat)(v:SV):Ob->OR
 | .mp kk vk l (some (n',some x)) =>bif kS kk ti.mkt&&kS vk ti.mvt&&Nat.beq n' n then Tz id kk vk l x (unT vk v)else .bad
 |_=>.bad
def Fg (ti:TI)(h:List Ob)(v:SV):SV->SV->OR
 | .os id,.os n=>Qe ti id n v (al h id)
 |_,_=>.bad
def TA (id:Nat)(kk vk:Tag)(l:List (kk.T×vk.T)):Option kk.T->OR
 |some x=>.eff True True [(id,.mp kk vk (yU kk vk l x) none)] .any
 |none=>.bad
def TB (ti:TI)(id:Nat)(key:SV):Ob->OR
 | .mp kk vk l p=>bif kS kk ti.mkt&&kS vk ti.mvt&&noE p then TA id kk vk l (unT kk key)else .bad
 |_=>.bad
def yk (ti:TI)(h:List Ob):List SV->OR
 | [.os id,key] =>TB ti id key (al h id)
 |_=>.bad
def mmR (nx:Nat):Option Tag->Option Tag->OR
 |some kk,some vk=>.eff True True [(nx,.mp kk vk [] none)] (.os nx)
 |_,_=>.bad
def zsO (z:List SV):OR:=.val (.tup [.agg z,.b false])
def taS (t:TypeId)(ok:Bool)(ti:TI):SV->OR
 | .v (.iface t' y) =>bif ti.iface then .bad else bif Nat.beq t' t then(bif ok then .val (.tup [.v y,.b true])else .val (.v y))else .bad
 |_=>.bad
def Qf (ti:TI)(nx id:Nat):Ob->OR
 | .mp kk vk l p=>bif kS kk ti.mkt&&kS vk ti.mvt&&noE p then .eff True True [(nx,.mi (some id) l.length (List.range l.length) none),(id,.mp kk vk l (some (nx,none)))] (.ptr nx 0)else .bad
 |_=>.bad
def Cb (ti:TI)(nx:Nat)(h:List Ob):SV->OR
 | .os id=>Qf ti nx id (al h id)
 |_=>.bad
def Nj:SV->OR
 | .ptr id 0=>.nxt id
 |_=>.bad
def Nk (id n j:Nat):Ob->OR
 | .mp kk vk l (some (it,none)) =>bif Nat.beq it id then .chk (n=l.length/\j<n) (.tup [svT kk (l.getD j (gw kk,gw vk)).1,svT vk (l.getD j (gw kk,gw vk)).2])else .bad
 |_=>.bad
def Kf (h:List Ob)(id:Nat):Ob->OR
 | .mi (some mid) n _ (some j) =>Nk id n j (al h mid)
 |_=>.bad
def AR (h:List Ob):SV->OR
 | .ptr id 0=>Kf h id (al h id)
 |_=>.bad
def opS (cx:Cx):Op->OR
 | .move x=>.val (val cx x)
 | .assign x=>.val (val cx x)
 | .pick c a b=>B3 a b (val cx c) (lG cx.ops cx.g c true (raw cx.st.t a)) (lG cx.ops cx.g c false (raw cx.st.t b))
 | .alloc t=>aC cx.ts t fun ti=>Fc cx.nx (some ti.zero)
 | .box _ x=>Fc cx.nx (qc (val cx x))
 | .build t parts=>aC cx.ts t fun ti=>
  bif ti.isArr then aC cx.ts ti.elem fun te=>IH (mE (fun i=>some (i*te.size,te.size)) ti.zero (ir cx parts.toList))
  else bif ti.agg then IH (mE (fun i=>(nth ti.fields i).map fun f=>(f.1,f.2.1)) ti.zero (ir cx parts.toList))
  else .bad
 | .buildSlice t n parts=>aC cx.ts t fun ti=>aC cx.ts ti.elem fun te=>DJ (DI t cx.ops cx.g) cx.nx te (bsS ti te n (ir cx parts.toList))
 | .load t a=>aC cx.ts t fun ti=>qT ti cx.st.h (val cx a)
 | .store t a x=>aC cx.ts t fun ti=>rK ti.size cx.nx cx.st.h (val cx a) (val cx x)
 | .nilCheck x=>M2 (val cx x)
 | .binOp op t x y _=>E9 cx.ts op t (val cx x) (val cx y)
 | .unOp op _ x=>unS op (val cx x)
 | .convert src dst x=>aC cx.ts src fun _=>aC cx.ts dst fun ti=>GI ti.int (val cx x)
 | .makeFunc fn first captured=>GL fn (cP cx first.toList) (cP cx captured.toList)
 | .fieldAddr t x f=>aC cx.ts t fun ti=>match nth ti.fields f with|some (o,n,_) =>bif Nat.ble 1 n then yY o (val cx x)else .bad|none=>.bad
 | .field t x f=>aC cx.ts t fun ti=>sI (nth ti.fields f) (yV (val cx x))
 | .indexAddr t x i=>aC cx.ts t fun ti=>aC cx.ts ti.elem fun te=>iD ti te.size cx.st.h (val cx x) (val cx i)
 | .extract x i=>M9 i (val cx x)
 | .panic x=>Na (val cx x)
 | .makeInterface t x=>aC cx.ts t fun ti=>bif ti.iface then .bad else B7 t (val cx x)
 | .makeSlice t n c=>aC cx.ts t fun ti=>aC cx.ts ti.elem fun te=>bif ti.isSlice then(bif te.isSlice then aC cx.ts te.elem fun tr=>DK cx.nx te tr (val cx n) (val cx c)else mkS cx.nx te (val cx n) (val cx c))else .bad
 | .slice t x lo hi none=>aC cx.ts t fun ti=>aC cx.ts ti.elem fun te=>oc ti te.size cx.nx cx.st.h (pm cx lo) (pm cx hi) (Ed hi&&GK cx.ops) (val cx x)
 | .slice t x lo hi (some m) =>aC cx.ts t fun ti=>aC cx.ts ti.elem fun _=>B_ ti (pm cx lo) (pm cx hi) (val cx m) (val cx x)
 | .makeMap t none=>aC cx.ts t fun ti=>mmR cx.nx ti.mkt ti.mvt
 | .lookup t m k ok=>aC cx.ts t fun ti=>tG ti cx.st.h ok (val cx k) (val cx m)
 | .mapUpdate t m k v=>aC cx.ts t fun ti=>Bh ti cx.st.h (val cx k) (val cx v) (val cx m)
 | .insert t m k v=>aC cx.ts t fun ti=>Bh ti cx.st.h (val cx k) (val cx v) (val cx m)
 | .mapEntry t m k=>aC cx.ts t fun ti=>xL ti cx.nx cx.st.h (val cx k) (val cx m)
 | .entryStore t m s v=>aC cx.ts t fun ti=>Fg ti cx.st.h (val cx v) (val cx m) (val cx s)
 | .range t m=>aC cx.ts t fun ti=>Cb ti cx.nx cx.st.h (val cx m)
 | .next it false=>Nj (val cx it)
 | .entry it=>AR cx.st.h (val cx it)
 | .typeAssert x _ t ok=>aC cx.ts t fun ti=>taS t ok ti (val cx x)
 | .call ⟨.value f,args,_⟩ =>yZ (cP cx args.toList) (val cx f)
 | .call ⟨.builtin .len,args,tys⟩ =>match tys.toList with| [t] =>aC cx.ts t fun ti=>uf ti cx.st.h (cP cx args.toList) |_=>.bad
 | .call ⟨.builtin .delete,args,tys⟩ =>match tys.toList with|t::_=>aC cx.ts t fun ti=>yk ti cx.st.h (cP cx args.toList) |_=>.bad
 | .call ⟨.builtin .clear,args,tys⟩ =>match tys.toList with| [t] =>aC cx.ts t fun ti=>aC cx.ts ti.elem fun te=>yj ti te cx.st.h (cP cx args.toList) |_=>.bad
 | .call ⟨.builtin .min,args,_⟩ =>Fd (cP cx args.toList)
 | .call ⟨.builtin .max,args,_⟩ =>Fe (cP cx args.toList)
 | .call ⟨.builtin .append,args,tys⟩ =>match tys.toList with| [t,t2] =>aC cx.ts t fun ti=>aC cx.ts t2 fun ti2=>aC cx.ts ti.elem fun te=>bif ti.isSlice&&ti2.isSlice then oa te cx.nx cx.st.h (cP cx args.toList)else .bad|_=>.bad
 |_=>.bad
structure Fp where
 all:List Nat
 rd:List Nat
 wk:List Nat
 tc:List Nat
 wt:List Nat
def gz:SV->List Nat
 | .ptr id _=>[id]
 | .os id=>[id]
 | .rp _ id _ _=>[id]
 | .gr id _=>[id]
 | .gp _ id _ _ _=>[id]
 | .vw _ id _ _=>[id]
 |_=>[]
def Fh:SV->List Nat
 | .ls [.os id] =>[id]
 |s=>gz s
def qd:List SV->List Nat
 | [] =>[]
 |s::r=>Fh s++qd r
def Nl:Ob->List Nat
 | .mi (some mid) _ _ _=>[mid]
 |_=>[]
def Nm (h:List Ob):SV->List Nat
 | .ptr id _=>Nl (al h id)
 |_=>[]
def fpO (cx:Cx):Op->List Nat×List Nat
 | .range _ m=>(gz (val cx m),[])
 | .entry it=>(gz (val cx it)++Nm cx.st.h (val cx it),[])
 | .load _ a=>(gz (val cx a),[])
 | .store _ a x=>(gz (val cx a)++gz (val cx x),[])
 | .indexAddr _ x _=>(gz (val cx x),[])
 | .slice _ x _ _ _=>(gz (val cx x),[])
 | .lookup _ m _ ok=>bif ok then(gz (val cx m),[])else([],gz (val cx m))
 | .mapUpdate _ m _ _=>(gz (val cx m),[])
 | .insert _ m _ _=>(gz (val cx m),[])
 | .mapEntry _ m _=>(gz (val cx m),[])
 | .entryStore _ m _ _=>(gz (val cx m),[])
 | .call ⟨.builtin .len,args,_⟩ =>(qd (cP cx args.toList),[])
 | .call ⟨.builtin .append,args,_⟩ =>(qd (cP cx args.toList),[])
 | .call ⟨.builtin .delete,args,_⟩ =>(qd (cP cx args.toList),[])
 | .call ⟨.builtin .clear,args,_⟩ =>(qd (cP cx args.toList),[])
 |_=>([],[])
def fA:List Up->List Nat
 | [] =>[]
 |(id,_)::r=>id::fA r
def tH:Op->Bool
 | .mapEntry .. =>true
 |_=>false
def fpU (o:Op)(x:List Nat×List Nat)(all:List Nat)(ups:List Up):Fp:=
 bif tH o then ⟨all,x.1,x.2,[],fA ups⟩else ⟨all,x.1,x.2,fA ups,[]⟩
def GO (as:List Nat):List Edge->Nat
 | [] =>0
 |e::r=>bif Region.binds .any e then Nat.lor (Nat.lor ((nth as e.on).getD 0) (Nat.shiftLeft 1 e.on)) (GO as r)else GO as r
def Ah:List Oper->List Nat->List Nat
 | [],as=>as
 |o::r,as=>Ah r (as++[GO as o.after.toList])
def sJ (as:List Nat)(i j:Nat):Bool:=Nat.testBit ((nth as i).getD 0) j
def Bi (n:Nat):List Nat->Bool
 | [] =>false
 |m::r=>bif Nat.beq m n then true else Bi n r
def tI:List Nat->List Nat->Bool
 | [],_=>false
 |a::r,l=>bif Bi a l then true else tI r l
def tJ (i e:Fp):Bool:=
 tI i.all e.tc||tI i.all e.wt||tI i.rd e.tc||tI i.rd e.wt||tI i.wk e.tc||tI i.tc e.tc||tI i.tc e.wt||tI i.wt e.tc||tI i.wt e.wt
def GP (as:List Nat)(i:Nat)(x:Fp):Nat->List Fp->Bool
 |_,[] =>true
 |j,y::r=>(Nat.beq i j|| !(tJ x y) ||(Nat.blt j i&&sJ as i j) ||(Nat.blt i j&&sJ as j i))&&GP as i x (j+1) r
def Kg (as:List Nat)(b:Nat)(all:List Fp):Nat->List Fp->Bool
 |_,[] =>true
 |i,x::r=>GP as i x b all&&Kg as b all (i+1) r
def Sv (ops:List Oper)(b:Nat)(fps:List Fp):Bool:=Kg (Ah ops []) b fps b fps
def Cc:List Fp->Bool
 | [] =>true
 |x::r=>x.tc.isEmpty&&x.wt.isEmpty&&Cc r
def sK (ops:List Oper)(b:Nat)(fps:List Fp):Prop:=bif Cc fps then True else Sv ops b fps=true
def Fi (as:List Nat)(c:Nat):Nat->List Oper->Bool
 |_,[] =>true
 |i,_::r=>(Nat.beq i c||(Nat.blt i c&&sJ as c i) ||(Nat.blt c i&&sJ as i c))&&Fi as c (i+1) r
def Cd (ops:List Oper)(c:Nat):Bool:=Fi (Ah ops []) c 0 ops
def dM (ops:List Oper)(t:List (Nat×SV)):Nat->Nat×Bool->Prop
 |0,_=>True
 |n+1,(j,want) =>match (nth ops j).bind (·.dst)with
  |some d=>match lk d t with
   | .v (.bool x) =>x=want
   | .gd j' b (.v (.bool x)) =>dM ops t n (j',b)/\x=want
   |_=>True
  |none=>True
def g9 (ops:List Oper)(t:List (Nat×SV)):Nat->Nat×Bool->Prop
 |0,_=>True
 |n+1,(j,want) =>match (nth ops j).bind (·.dst)with
  |some d=>match lk d t with
   | .v (.bool x) =>¬x=want
   | .gd j' b (.v (.bool x)) =>g9 ops t n (j',b)\/¬x=want
   |_=>True
  |none=>True
def vz (ops:List Oper)(t:List (Nat×SV)):Nat->Nat×Bool->Prop
 |0,_=>False
 |n+1,(j,want) =>match (nth ops j).bind (·.dst)with
  |some d=>match lk d t with
   | .v (.bool x) =>¬x=want
   | .gd j' b (.v (.bool x)) =>vz ops t n (j',b)\/¬x=want
   |_=>False
  |none=>False
def Qg (szt off:Nat)(i:Int):Ob->SV
 | .row k l=>bif Nat.beq szt (aa k)then .ep (cellsOf k (l.getD i.toNat (gw k))) off else .any
 |_=>.any
def Kh (szt off:Nat)(i j:Int):Ob->SV
 | .grid k l=>bif Nat.beq szt (aa k)then .ep (cellsOf k ((l.getD i.toNat []).getD j.toNat (gw k))) off else .any
 |_=>.any
def Nn (i:Int):Ob->SV
 | .grid k l=>.rs k (l.getD i.toNat [])
 |_=>.any
def frz:Ob->SV
 | .row k l=>.rs k l
 | .mp kk vk l p=>bif noE p then .rm kk vk l else .any
 | .grid k l=>Gx k l
 | .fz k l=>.rs k l
 |_=>.any
def LI (f:SV->SV)(off:Nat):Ob->SV
 | .cells l=>.ep (l.map f) off
 |_=>.any
def Qh (s:Nat)(lo hi:Int):Ob->SV
 | .row k l=>bif Nat.beq s (aa k)then .rs k ((l.take hi.toNat).drop lo.toNat)else .any
 |_=>.any
def fM (h:List Ob):Nat->SV->SV
 |_,.v x=>.v x
 |_,.rs k l=>.rs k l
 |_,.rc k l=>.rs k l
 |_,.e0=>.e0
 |_,.rm k k2 l=>.rm k k2 l
 |_,.os id=>frz (al h id)
 |_,.vw s id lo hi=>Qh s lo hi (al h id)
 |_,.rp s id i off=>bif Nat.beq s 0 then .any else Qg s off i (al h id)
 |_,.gp s id i j off=>bif Nat.beq s 0 then .any else Kh s off i j (al h id)
 |_,.gr id i=>Nn i (al h id)
 |n+1,.ptr id off=>LI (fM h n) off (al h id)
 |n+1,.ep l off=>.ep (l.map (fM h n)) off
 |n+1,.ls l=>.ls (l.map (fM h n))
 |n+1,.agg l=>.agg (l.map (fM h n))
 |n+1,.tup l=>.tup (l.map (fM h n))
 |n+1,.fn f first caps=>.fn f (first.map (fM h n)) (caps.map (fM h n))
 |_,_=>.any
def LJ (f:SV->List Nat):Ob->List Nat
 | .cells l=>l.flatMap f
 |_=>[]
def jx (h:List Ob):Nat->SV->List Nat
 |_,.os id=>[id]
 |_,.rp _ id _ _=>[id]
 |_,.gp _ id _ _ _=>[id]
 |_,.gr id _=>[id]
 |_,.vw _ id _ _=>[id]
 |n+1,.ptr id _=>id::LJ (jx h n) (al h id)
 |n+1,.ep l _=>l.flatMap (jx h n)
 |n+1,.ls l=>l.flatMap (jx h n)
 |n+1,.agg l=>l.flatMap (jx h n)
 |n+1,.tup l=>l.flatMap (jx h n)
 |n+1,.fn _ first caps=>first.flatMap (jx h n)++caps.flatMap (jx h n)
 |_,_=>[]
def ungd:List (Nat×SV)->List (Nat×SV)
 | [] =>[]
 |(d,.gd ..)::r=>(d,.any)::ungd r
 |x::r=>x::ungd r
def cq:Nat->SV->Bool
 |_,.v _=>true
 |_,.rs _ _=>true
 |_,.rm _ _ _=>true
 |_,.e0=>true
 |_,.rc _ _=>true
 |_,.any=>true
 |n+1,.ep l _=>l.all (cq n)
 |n+1,.ls l=>l.all (cq n)
 |n+1,.agg l=>l.all (cq n)
 |n+1,.tup l=>l.all (cq n)
 |n+1,.fn _ l m=>l.all (cq n)&&m.all (cq n)
 |_,_=>false
def iB:Nat->SV->Bool
 |_,.v _=>true
 |_,.nw k _=>Nat.beq (rank k) 0
 |_,.nm k k2 _=>Nat.beq (rank k) 0&&Nat.beq (rank k2) 0
 |_,.ng k _=>Nat.beq (rank k) 0
 |n+1,.agg l=>l.all (iB n)
 |n+1,.tup l=>l.all (iB n)
 |_,_=>false
def aJ:Nat->SV->List Ob
 |_,.nw k l=>[.row k l]
 |_,.nm k k2 l=>[.mp k k2 l none]
 |_,.ng k l=>[.grid k l]
 |n+1,.agg l=>l.flatMap (aJ n)
 |n+1,.tup l=>l.flatMap (aJ n)
 |_,_=>[]
def rL (f:Nat->SV->SV)(c:SV->Nat):Nat->List SV->List SV
 |_,[] =>[]
 |b,x::r=>f b x::rL f c (b+c x) r
def iH:Nat->Nat->SV->SV
 |_,b,.nw _ _=>.os b
 |_,b,.nm _ _ _=>.os b
 |_,b,.ng _ _=>.os b
 |n+1,b,.agg l=>.agg (rL (iH n) (fun s=>(aJ n s).length) b l)
 |n+1,b,.tup l=>.tup (rL (iH n) (fun s=>(aJ n s).length) b l)
 |_,_,s=>s
def fX:Nat->SV->List Nat
 |_,.ptr id _=>[id]
 |_,.os id=>[id]
 |_,.rp _ id _ _=>[id]
 |_,.gr id _=>[id]
 |_,.gp _ id _ _ _=>[id]
 |_,.vw _ id _ _=>[id]
 |n+1,.ep l _=>l.flatMap (fX n)
 |n+1,.ls l=>l.flatMap (fX n)
 |n+1,.agg l=>l.flatMap (fX n)
 |n+1,.tup l=>l.flatMap (fX n)
 |n+1,.fn _ l m=>l.flatMap (fX n)++m.flatMap (fX n)
 |n+1,.gd _ _ s=>fX n s
 |_,_=>[]
def No:Ob->List Nat
 | .cells l=>l.flatMap (fX 3)
 |_=>[]
def reach (h:List Ob):Nat->List Nat->List Nat->List Nat
 |0,_,acc=>acc
 |_+1,[],acc=>acc
 |n+1,id::todo,acc=>bif Bi id acc then reach h n todo acc else reach h n (No (al h id)++todo) (acc++[id])
def xM (id:Nat):List Nat->Option Nat
 | [] =>none
 |a::r=>bif Nat.beq a id then some 0 else(xM id r).map (· +1)
def y4 (f:Nat->SV):Option Nat->SV
 |some k=>f k
 |none=>.any
def ren (m:Nat->Option Nat):Nat->SV->SV
 |_,.ptr id off=>y4 (fun k=>.ptr k off) (m id)
 |_,.os id=>y4 (fun k=>.os k) (m id)
 |_,.rp s id i off=>y4 (fun k=>.rp s k i off) (m id)
 |_,.gr id i=>y4 (fun k=>.gr k i) (m id)
 |_,.gp s id i j off=>y4 (fun k=>.gp s k i j off) (m id)
 |_,.vw s id lo hi=>y4 (fun k=>.vw s k lo hi) (m id)
 |n+1,.ep l o=>.ep (l.map (ren m n)) o
 |n+1,.ls l=>.ls (l.map (ren m n))
 |n+1,.agg l=>.agg (l.map (ren m n))
 |n+1,.tup l=>.tup (l.map (ren m n))
 |n+1,.fn f l l2=>.fn f (l.map (ren m n)) (l2.map (ren m n))
 |_,.any=>.any
 |_,.v x=>.v x
 |_,.e0=>.e0
 |_,.rc k l=>.rc k l
 |_,.rs k l=>.rs k l
 |_,.rm k k2 l=>.rm k k2 l
 |_,_=>.any
def IJ (kk vk:Tag)(l:List (kk.T×vk.T)):Option kk.T->Option Nat->Ob
 |p,some k=>.mp kk vk l (some (k,p))
 |some _,none=>.fwd none
 |none,none=>.mp kk vk l none
def vA (m:Nat->Option Nat):Ob->Ob
 | .cells l=>.cells (l.map (ren m 3))
 | .mi mid n left cur=>.mi (mid.bind m) n left cur
 | .fwd n=>.fwd (n.bind m)
 | .mp kk vk l (some (i,p)) =>IJ kk vk l p (m i)
 |o=>o
def inN (ids:List Nat)(i:Nat):Option Nat:=xM i ids
def so (h:List Ob)(ids:List Nat):List Ob:=ids.map fun id=>vA (inN ids) (al h id)
def r8 (ids:List Nat)(b:Nat)(k:Nat):Option Nat:=match nth ids k with|some id=>some id|none=>some (b+(k - ids.length))
def kV (ids:List Nat)(b:Nat)(k:Nat):Nat:=match nth ids k with|some id=>id|none=>b+(k - ids.length)
def nV (ids:List Nat)(b:Nat)(h:List Ob):Nat->List Ob->List Ob
 |_,[] =>h
 |k,o::r=>nV ids b (bA h (kV ids b k) (vA (r8 ids b) o)) (k+1) r
def IK (ids:List Nat)(d:Option Nat)(st:St)(K:St->Prop)(Z:Value->St->Prop):Rs->Prop
 | .ret s h=>K (St.put ⟨st.t,nV ids st.h.length st.h 0 h⟩ d (ren (r8 ids st.h.length) 3 s))
 | .pan x h=>Z x ⟨ungd st.t,nV ids st.h.length st.h 0 h⟩
def LK (ids:List Nat)(g:Nat×Bool)(d:Option Nat)(st:St)(K:St->Prop)(Z:Value->St->Prop):Rs->Prop
 | .ret s h=>K (St.put ⟨st.t,nV ids st.h.length st.h 0 h⟩ d (.gd g.1 g.2 (ren (r8 ids st.h.length) 3 s)))
 | .pan x h=>Z x ⟨ungd st.t,nV ids st.h.length st.h 0 h⟩
def y5 (ids:List Nat)(d:Option Nat)(st:St)(K:St->Prop)(Z:Value->St->Prop):Option HCon->Prop
 |some c=>c.pre/\∀ r,c.post r->IK ids d st K Z (c.res r)
 |none=>False
def yl (ids:List Nat)(ops:List Oper)(g:Nat×Bool)(d:Option Nat)(st:St)(K:St->Prop)(Z:Value->St->Prop):Option HCon->Prop
 |some c=>(dM ops st.t ops.length g->c.pre/\∀ r,c.post r->LK ids g d st K Z (c.res r))/\(g9 ops st.t ops.length g->K (st.put d (.gd g.1 g.2 .any)))
 |none=>vz ops st.t ops.length g/\K (st.put d (.gd g.1 g.2 .any))
def wz (np:Bool)(ids:List Nat)(d:Option Nat)(st:St)(K:St->Prop)(Z:Value->St->Prop)(c:Option HCon):Option Con->Prop
 |some (.det p s) =>bif np||iB 3 s then(p/\K (St.put ⟨st.t,st.h++aJ 3 s⟩ d (iH 3 st.h.length s)))else y5 ids d st K Z c
 |some (.rel _ pre post out) =>pre/\(bif np then ∀ r,post r->K (St.put ⟨st.t,st.h++aJ 3 (out r)⟩ d (iH 3 st.h.length (out r)))else False)
 |some (.may ok s x) =>bif np||iB 3 s then(ok=true->K (St.put ⟨st.t,st.h++aJ 3 s⟩ d (iH 3 st.h.length s)))/\(ok=false->Z x ⟨ungd st.t,st.h⟩)else False
 |none=>y5 ids d st K Z c
def Ce (np:Bool)(ids:List Nat)(ops:List Oper)(g:Nat×Bool)(d:Option Nat)(st:St)(K:St->Prop)(Z:Value->St->Prop)(c:Option HCon):Option Con->Prop
 |some (.det p s) =>(dM ops st.t ops.length g->p)/\(bif(np||iB 3 s)&&(aJ 3 s).isEmpty then K (st.put d (.gd g.1 g.2 s))else False)
 |none=>yl ids ops g d st K Z c
 |_=>False
def IL (id:Nat)(d:Option Nat)(st:St)(K:St->Prop):Option YCon->Prop
 |some c=>c.pre/\∀ r,c.post r->K (St.put ⟨st.t,bA st.h id (.ab (c.res r).2)⟩ d (.b (c.res r).1))
 |none=>False
def GQ (id:Nat)(ops:List Oper)(g:Nat×Bool)(d:Option Nat)(st:St)(K:St->Prop):Option YCon->Prop
 |some c=>(dM ops st.t ops.length g->c.pre/\∀ r,c.post r->K (St.put ⟨st.t,bA st.h id (.ab (c.res r).2)⟩ d (.gd g.1 g.2 (.b (c.res r).1))))/\(g9 ops st.t ops.length g->K (st.put d (.gd g.1 g.2 .any)))
 |none=>False
def Fj (G:Cons)(args:List SV):Ob->Option YCon
 | .ab r=>G.y args r
 |_=>none
def Np (id mid n:Nat)(left:List Nat)(d:Option Nat)(st:St)(next:St->Prop):Ob->Prop
 | .mp kk vk l (some (it,none)) =>(it=id/\n=l.length)/\(left=[]->next (st.put d (.tup [.v (.bool false)])))/\
   ∀ j,j∈left->next (St.put ⟨st.t,bA st.h id (.mi (some mid) n (left.erase j) (some j))⟩ d (.tup [.v (.bool true),svT kk (l.getD j (gw kk,gw vk)).1,svT vk (l.getD j (gw kk,gw vk)).2]))
 |_=>False
def Qi (id:Nat)(d:Option Nat)(st:St)(next:St->Prop):Ob->Prop
 | .mi (some mid) n left _=>Np id mid n left d st next (al st.h mid)
 |_=>False
def mF (G:Cons)(d:Option Nat)(st:St)(next:St->Prop)(Z:Value->St->Prop):OR->Prop
 | .val s=>next (st.put d s)
 | .chk c s=>c/\next (st.put d s)
 | .asm c s=>c->next (st.put d s)
 | .newr s=>next (st.put d s)
 | .eff c a ups s=>c/\(a->next (St.put ⟨st.t,aS st.h ups⟩ d s))
 | .call f args=>wz (args.all (cq 3)) (reach st.h 64 (args.flatMap (fX 3)) []) d st next Z (G.o f (args.map (ren (inN (reach st.h 64 (args.flatMap (fX 3)) [])) 6)) (so st.h (reach st.h 64 (args.flatMap (fX 3)) []))) (G.p f (args.map (fM st.h 6)))
 | .yld id args=>bif args.all (cq 3)then IL id d st next (Fj G args (al st.h id))else False
 | .nxt id=>Qi id d st next (al st.h id)
 | .amb p=>∀ b,p b->next (st.put d (.v (.bool b)))
 | .pan x=>Z x ⟨ungd st.t,st.h⟩
 | .bad=>False
def stepG (G:Cons)(ops:List Oper)(g:Nat×Bool)(d:Option Nat)(st:St)(next:St->Prop)(Z:Value->St->Prop):OR->Prop
 | .val s=>next (st.put d (.gd g.1 g.2 s))
 | .chk c s=>(dM ops st.t ops.length g->c)/\next (st.put d (.gd g.1 g.2 s))
 | .asm _ s=>next (st.put d (.gd g.1 g.2 s))
 | .newr s=>next (st.put d (.gd g.1 g.2 s))
 | .eff c a ups s=>(dM ops st.t ops.length g->c/\(a->next (St.put ⟨st.t,aS st.h ups⟩ d (.gd g.1 g.2 s))))/\(g9 ops st.t ops.length g->next (st.put d (.gd g.1 g.2 .any)))
 | .call f args=>Ce (args.all (cq 3)) (reach st.h 64 (args.flatMap (fX 3)) []) ops g d st next Z (G.o f (args.map (ren (inN (reach st.h 64 (args.flatMap (fX 3)) [])) 6)) (so st.h (reach st.h 64 (args.flatMap (fX 3)) []))) (G.p f (args.map (fM st.h 6)))
 | .yld id args=>bif args.all (cq 3)then GQ id ops g d st next (Fj G args (al st.h id))else False
 | .bad=>vz ops st.t ops.length g/\next (st.put d (.gd g.1 g.2 .any))
 | .nxt _=>False
 | .amb _=>False
 | .pan _=>False
def jy (ts:Tis)(G:Cons)(ops:List Oper):List Oper->St->(St->Prop)->(Value->St->Prop)->Prop
 | [],st,K,_=>K st
 |o::rest,st,K,Z=>match o.guard with
  |none=>mF G o.dst st (fun st'=>jy ts G ops rest st' K Z) Z (opS ⟨ts,ops,none,st,st.h.length⟩ o.op)
  |some g=>stepG G ops g o.dst st (fun st'=>jy ts G ops rest st' K Z) Z (opS ⟨ts,ops,some g,st,st.h.length⟩ o.op)
structure Dr where
 c:Prop
 a:Prop
 s:SV
 ups:List Up
 all:List Nat
def drR (np:Bool)(rd:List Nat)(nx:Nat)(p:Prop)(s:SV):List Ob->Option Dr
 | [] =>bif np||iB 3 s then some ⟨p,True,s,[],rd⟩else none
 | [ob] =>bif np||iB 3 s then some ⟨p,True,iH 3 nx s,[(nx,ob)],rd⟩else none
 |_=>none
def drC (np:Bool)(rd:List Nat)(nx:Nat):Option Con->Option Dr
 |some (.det p s) =>drR np rd nx p s (aJ 3 s)
 |_=>none
def j4 (G:Cons)(h:List Ob)(nx:Nat):OR->Option Dr
 | .val s=>some ⟨True,True,s,[],[]⟩
 | .chk c s=>some ⟨c,True,s,[],[]⟩
 | .asm c s=>some ⟨True,c,s,[],[]⟩
 | .newr s=>some ⟨True,True,s,[],[]⟩
 | .eff c a ups s=>some ⟨c,a,s,ups,[]⟩
 | .call f args=>drC (args.all (cq 3)) (args.flatMap (jx h 6)) nx (G.p f (args.map (fM h 6)))
 | .bad=>some ⟨False,True,.any,[],[]⟩
 |_=>none
def drN (d:Option Nat)(st:St)(next:List Nat->List Up->St->Prop)(r:Dr):Prop:=r.c/\(r.a->next r.all r.ups (St.put ⟨st.t,aS st.h r.ups⟩ d r.s))
def drG (ops:List Oper)(g:Nat×Bool)(d:Option Nat)(st:St)(next:List Nat->List Up->St->Prop)(r:Dr):Prop:=
 bif r.ups.isEmpty then(dM ops st.t ops.length g->r.c)/\next r.all [] (st.put d (.gd g.1 g.2 r.s))
 else ¬ (dM ops st.t ops.length g/\g9 ops st.t ops.length g)/\(dM ops st.t ops.length g->r.c/\(r.a->next r.all r.ups (St.put ⟨st.t,aS st.h r.ups⟩ d (.gd g.1 g.2 r.s))))/\(g9 ops st.t ops.length g->next r.all [] (st.put d (.gd g.1 g.2 r.s)))
def ym (d:Option Nat)(st:St)(next:List Nat->List Up->St->Prop)(cutp:Prop):Option Dr->Prop
 |some r=>drN d st next r
 |none=>cutp
def wA (ops:List Oper)(g:Nat×Bool)(d:Option Nat)(st:St)(next:List Nat->List Up->St->Prop)(cutp:Prop):Option Dr->Prop
 |some r=>drG ops g d st next r
 |none=>cutp
def kh (ts:Tis)(G:Cons)(ops:List Oper)(K:St->Prop)(Z:Value->St->Prop):List Oper->(i b:Nat)->List Fp->St->Prop
 | [],_,b,fps,st=>sK ops b fps/\K st
 |o::rest,i,b,fps,st=>match o.guard with
  |none=>ym o.dst st (fun all ups st'=>kh ts G ops K Z rest (i+1) b (fps++[fpU o.op (fpO ⟨ts,ops,none,st,st.h.length⟩ o.op) all ups]) st')
    (sK ops b fps/\Cd ops i=true/\mF G o.dst st (fun st'=>kh ts G ops K Z rest (i+1) (i+1) [] st') Z (opS ⟨ts,ops,none,st,st.h.length⟩ o.op))
    (j4 G st.h st.h.length (opS ⟨ts,ops,none,st,st.h.length⟩ o.op))
  |some g=>wA ops g o.dst st (fun all ups st'=>kh ts G ops K Z rest (i+1) b (fps++[fpU o.op (fpO ⟨ts,ops,some g,st,st.h.length⟩ o.op) all ups]) st')
    (sK ops b fps/\Cd ops i=true/\stepG G ops g o.dst st (fun st'=>kh ts G ops K Z rest (i+1) (i+1) [] st') Z (opS ⟨ts,ops,some g,st,st.h.length⟩ o.op))
    (j4 G st.h st.h.length (opS ⟨ts,ops,some g,st,st.h.length⟩ o.op))
def TC (id:Nat):Ob->SV
 | .fwd (some n) =>.os n
 |_=>.os id
def Nq (h:List Ob):SV->SV
 | .os id=>TC id (al h id)
 |s=>s
def IM (h:List Ob):List (Nat×SV)->List (Nat×SV)
 | [] =>[]
 |(d,s)::r=>(d,Nq h s)::IM h r
def Ki:Ob->Bool
 | .fwd (some _) =>true
 |_=>false
def lW:List Ob->Bool
 | [] =>false
 |o::r=>Ki o||lW r
def TD:Ob->Ob
 | .fwd _=>.dead
 |o=>o
def xU:List Ob->List Ob
 | [] =>[]
 |o::r=>TD o::xU r
def cleanF (st:St):St:=bif lW st.h then ⟨IM st.h st.t,xU st.h⟩else st
def wB (ops:List Oper)(st:St):St:=cleanF (bif ops.any (·.guard.isSome)then ⟨ungd st.t,st.h⟩else st)
inductive Ex where
 |normal
 |exit (id:Nat)
 |ret
 |pan (x:Value)
def Ex.then (K:St->Prop)(Q:Ex->St->Prop):Ex->St->Prop
 | .normal,st=>K st
 |e,st=>Q e st
def Ex.block (id:Nat)(Q:Ex->St->Prop):Ex->St->Prop
 | .exit j,st=>bif Nat.beq j id then Q .normal st else Q (.exit j) st
 |e,st=>Q e st
def xV (x y:Prop):SV->Prop
 | .v (.bool b) =>(b=true->x)/\(b=false->y)
 |_=>False
structure LCon where
 α:Type
 pre:Prop
 post:α->Prop
 ex:α->Ex
 out:α->St
abbrev uH:=Nat->St->Option LCon
def sL (Q:Ex->St->Prop):Option LCon->Prop
 |some c=>c.pre/\∀ r,c.post r->Q (c.ex r) (c.out r)
 |none=>False
def Nr:Operand->Nat
 | .tmp n=>n+1000000
 |_=>0
def subJ (t:List (Nat×SV)):List (Nat×SV)->Prop
 | [] =>True
 |(n,s)::r=>lk n t=s/\subJ t r
def inJ (d:St):Ex->St->Prop
 | .normal,st=>st.h=d.h/\subJ st.t d.t
 |_,_=>False
def Ns (x y:(Ex->St->Prop)->Prop)(Q:Ex->St->Prop)(s:SV)(c:LCon):Prop:=
 xV (x fun e st=>∃ r,c.post r/\inJ (c.out r) e st) (y fun e st=>∃ r,c.post r/\inJ (c.out r) e st) s/\∀ r,c.post r->Q .normal (c.out r)
def Cf (x y:(Ex->St->Prop)->Prop)(Q:Ex->St->Prop)(s:SV):Option LCon->Prop
 |none=>xV (x Q) (y Q) s
 |some c=>Ns x y Q s c
def JC (d:St):LCon:=⟨Unit,True,fun _=>True,fun _=>.normal,fun _=>d⟩
def XM (c:LCon)(Q:Ex->St->Prop):Ex->St->Prop
 | .normal,st=>∃ r,c.post r/\inJ (c.out r) .normal st
 |e,st=>Q e st
def inC (d:St)(Q:Ex->St->Prop):Ex->St->Prop
 | .normal,st=>inJ d .normal st
 |e,st=>Q e st
def cutL (x:(Ex->St->Prop)->Prop)(Q:Ex->St->Prop)(c:LCon):Prop:=x (XM c Q)/\∀ r,c.post r->Q .normal (c.out r)
def Cg (x:(Ex->St->Prop)->Prop)(Q:Ex->St->Prop):Option LCon->Prop
 |none=>x Q
 |some c=>cutL x Q c
def AS (ts:Tis)(G:Cons)(ops:Array Oper)(d:Bool)(st:St)(Q:Ex->St->Prop):Prop:=
 bif d then kh ts G ops.toList (fun st'=>Q .normal (wB ops.toList st')) (fun x st'=>Q (.pan x) st') ops.toList 0 0 [] st
   else jy ts G ops.toList ops.toList st (fun st'=>Q .normal (wB ops.toList st')) (fun x st'=>Q (.pan x) st')
def exec (ts:Tis)(G:Cons)(L:uH):Code->St->(Ex->St->Prop)->Prop
 | .skip,st,Q=>Q .normal st
 | .region id ops d,st,Q=>Cg (AS ts G ops d st) Q (L (id+2000000) st)
 | .seq a b,st,Q=>exec ts G L a st (Ex.then (fun st'=>exec ts G L b st' Q) Q)
 | .cond c x y,st,Q=>Cf (exec ts G L x st) (exec ts G L y st) Q (raw st.t c) (L (Nr c) st)
 | .block id (.loop _),st,Q=>sL Q (L id st)
 | .block id (.rangeFunc ..),st,Q=>sL Q (L id st)
 | .block id c,st,Q=>exec ts G L c st (Ex.block id Q)
 | .exit id,st,Q=>Q (.exit id) st
 | .ret,st,Q=>Q .ret st
 | .scope c,st,Q=>exec ts G L c st Q
 | .label _,st,Q=>Q .normal st
 |_,_,_=>False
def Qj:OR->Option SV
 | .val s=>some s
 |_=>none
def LL (ts:Tis)(st:St):ResultVar->Option SV
 | .tmp n=>some (lk n st.t)
 | .cell q t=>Qj (aC ts t fun ti=>qT ti st.h (lk q st.t))
def GR:Option SV->Option (List SV)->Option (List SV)
 |some s,some l=>some (s::l)
 |_,_=>none
def km (ts:Tis)(st:St):List ResultVar->Option (List SV)
 | [] =>some []
 |x::r=>GR (LL ts st x) (km ts st r)
def lH:Option (List SV)->Option SV
 |some [s] =>some s
 |some l=>some (.tup l)
 |none=>none
def XN (h:List Ob):Option SV->Option SV
 |some s=>some (fM h 4 s)
 |none=>none
def wC (rs:List ResultVar)(ts:Tis)(st:St):Option SV:=XN st.h (lH (km ts st rs))
def wD:Ob->SV
 | .row k l=>.nw k l
 | .mp k k2 l none=>.nm k k2 l
 | .grid k l=>.ng k l
 |_=>.any
def xW (h:List Ob):Nat->SV->SV
 |_,.os id=>wD (al h id)
 |n+1,.agg l=>.agg (l.map (xW h n))
 |n+1,.tup l=>.tup (l.map (xW h n))
 |_,.v x=>.v x
 |_,.rs k l=>.rs k l
 |_,.rm k k2 l=>.rm k k2 l
 |_,.e0=>.e0
 |n,s=>bif cq n s then s else .any
def vB:Nat->SV->List Nat
 |_,.os id=>[id]
 |n+1,.agg l=>l.flatMap (vB n)
 |n+1,.tup l=>l.flatMap (vB n)
 |_,_=>[]
def uniq:List Nat->Bool
 | [] =>true
 |a::r=>!(Bi a r)&&uniq r
def AT (h:List Ob)(s:SV):Option SV:=bif uniq (vB 3 s)&&(vB 3 s).all (fun i=>Nat.blt i h.length)then some (xW h 3 s)else none
def Sw (h:List Ob):Option SV->Option SV
 |some s=>AT h s
 |none=>none
def LM (rs:List ResultVar)(ts:Tis)(st:St):Option SV:=Sw st.h (lH (km ts st rs))
def yn (m:Bool)(rs:List ResultVar)(ts:Tis)(st:St):Option SV:=bif m then LM rs ts st else wC rs ts st
def BA (ops:List Oper)(i:Nat)(o:Oper):Bool:=
 match o.guard with
 |none=>true
 |some (j,_) =>Nat.blt j i&&(match (nth ops j).bind (·.dst)with
  |some d=>(List.range ops.length).all fun k=>Nat.beq k j||(match (nth ops k).bind (·.dst)with|some e=>!(Nat.beq d e) |none=>true)
  |none=>false)
def Nt (N:Nat)(ops:List Oper):Bool:=
 (List.range ops.length).all fun i=>match nth ops i with
  |some o=>(match o.dst with|some d=>Nat.blt d N|none=>true)&&BA ops i o
  |none=>true
def qg (o:Oper)(k:Nat):Bool:=o.after.toList.any fun e=>Nat.beq e.on k&&Region.binds .any e
def IN (ops:Array Oper):Bool:=
 (List.range ops.size).all fun i=>match nth ops.toList i with
  |some o=>
   (o.after.toList.all fun e=>!(Region.binds .any e) ||Nat.blt e.on i)&&
   (List.range ops.size).all fun k=>match nth ops.toList k with
    |some q=>match q.dst with
     |some d=>(Nat.beq k i|| !(o.dst==some d))&&(!((o.looksAt ops).contains d) ||Nat.beq k i||(Nat.blt k i&&qg o k) ||(Nat.blt i k&&qg q i))
     |none=>true
    |none=>true
  |none=>true
def cp (N:Nat):Code->Bool
 | .region _ ops d=>Nt N ops.toList&&(!d||IN ops)
 | .seq a b=>cp N a&&cp N b
 | .cond _ a b=>cp N a&&cp N b
 | .block _ c=>cp N c
 | .loop c=>cp N c
 | .scope c=>cp N c
 | .rangeFunc _ _ a b=>cp N a&&cp N b
 |_=>true
def nW:Nat->Nat->SV->Bool
 |_,_,.v _=>true
 |_,_,.rs _ _=>true
 |_,_,.rm _ _ _=>true
 |_,_,.any=>true
 |_,_,.e0=>true
 |_,_,.rc _ _=>true
 |_,n,.ptr id _=>Nat.blt id n
 |_,n,.os id=>Nat.blt id n
 |_,n,.rp _ id _ _=>Nat.blt id n
 |_,n,.gr id _=>Nat.blt id n
 |_,n,.gp _ id _ _ _=>Nat.blt id n
 |_,n,.vw _ id _ _=>Nat.blt id n
 |f+1,n,.ep l _=>l.all (nW f n)
 |f+1,n,.ls l=>l.all (nW f n)
 |f+1,n,.agg l=>l.all (nW f n)
 |f+1,n,.tup l=>l.all (nW f n)
 |f+1,n,.fn _ l m=>l.all (nW f n)&&m.all (nW f n)
 |_,_,_=>false
def LN (m:Nat->Option Nat)(n:Nat)(t:List (Nat×SV)):List (Nat×SV)->Prop
 | [] =>True
 |(i,s)::r=>(lk i t=ren m 5 s/\nW 5 n s=true)/\LN m n t r
def c7:Ob->Bool
 | .dead=>true
 |_=>false
def v6 (n:Nat):Ob->Bool
 | .cells l=>l.all (nW 3 n)
 | .mi (some i) _ _ _=>Nat.blt i n
 | .fwd (some i) =>Nat.blt i n
 | .mp _ _ _ (some (i,_)) =>Nat.blt i n
 |_=>true
def unp {κ:Type}:Option (Nat×Option κ)->Option (Nat×Option κ)
 |some (_,none) =>none
 |p=>p
def GS:SV->Bool
 | .any=>true
 |_=>false
def wkL:List SV->List SV->List SV
 |a::r,x::s=>(bif GS a then .any else x)::wkL r s
 |_,s=>s
def Ch:Ob->Ob->Ob
 | .mp _ _ _ none,.mp kk vk l p=>.mp kk vk l (unp p)
 | .cells a,.cells l=>.cells (wkL a l)
 |_,o=>o
def Fk (m:Nat->Option Nat)(n:Nat)(h:List Ob)(j:Nat)(o:Ob):Prop:=bif c7 o then True else Ch o (al h j)=vA m o/\v6 n o=true
def DL (m:Nat->Option Nat)(n:Nat)(h:List Ob):List Nat->List Ob->Prop
 | [],[] =>True
 |j::js,o::r=>Fk m n h j o/\DL m n h js r
 |_,_=>False
def nK:List Nat->List Ob->List Nat
 |j::js,o::r=>bif c7 o then nK js r else j::nK js r
 |_,_=>[]
def yo:Nat->List Nat->Nat->Bool
 |_,[],_=>true
 |i,j::js,n=>(Nat.beq i j||Nat.ble n i)&&yo (i+1) js n
def Bj (js:List Nat)(i:Nat):Option Nat:=nth js i
def Sub (js:List Nat)(n0:Nat)(st st2:St):Prop:=
 (uniq (nK js st2.h)=true/\yo 0 js n0=true/\js.all (fun j=>Nat.blt j st.h.length)=true)/\LN (Bj js) st2.h.length st.t st2.t/\DL (Bj js) st2.h.length st.h js st2.h
def vC {σ:Type}(D:σ->St)(I:σ->Prop)(m:σ->Nat)(n0:Nat)(x:σ)(id:Nat)(Q:Ex->St->Prop):Ex->St->Prop
 | .normal,st=>∃ y js,I y/\m y<m x/\n0<=(D y).h.length/\Sub js n0 st (D y)
 | .exit j,st=>bif Nat.beq j id then Q .normal st else Q (.exit j) st
 | .ret,st=>Q .ret st
 | .pan x,st=>Q (.pan x) st
def mG:Nat->List SV->List (Nat×SV)
 |_,[] =>[]
 |n,s::r=>(n,s)::mG (n+1) r
def eU (post:SV->Prop):Option SV->Prop
 |some s=>post s
 |none=>False
def GU (m:Bool)(rs:List ResultVar)(ts:Tis)(post:SV->Prop)(pp:Value->Prop):Ex->St->Prop
 | .exit _,_=>False
 | .normal,st=>eU post (yn m rs ts st)
 | .ret,st=>eU post (yn m rs ts st)
 | .pan x,_=>pp x
def y6 (n0:Nat)(C:HCon):Option SV->List Ob->Prop
 |some s,h=>∃ r s' h' js,C.post r/\C.res r=.ret s' h'/\n0<=h'.length/\Sub js n0 ⟨[(0,s)],h⟩ ⟨[(0,s')],h'⟩
 |none,_=>False
def GV (n0:Nat)(rs:List ResultVar)(ts:Tis)(C:HCon):Ex->St->Prop
 | .exit _,_=>False
 | .normal,st=>y6 n0 C (lH (km ts st rs)) st.h
 | .ret,st=>y6 n0 C (lH (km ts st rs)) st.h
 | .pan x,st=>∃ r h' js,C.post r/\C.res r=.pan x h'/\n0<=h'.length/\Sub js n0 ⟨[],st.h⟩ ⟨[],h'⟩
structure Hd where
 p:Option Nat:=none
 v:Value:=undef
 vs:List Value:=[]
 bs:List Nat:=[]
abbrev Own:=Nat->Option Hd
def bZ (F:Nat->Prop)(own:Own)(b:Nat):Prop:=F b\/∃ id hd,own id=some hd/\b∈hd.bs
def cO:Own:=fun _=>none
def Hd.like (a b:Hd):Prop:=b.p=a.p/\b.v=a.v/\b.vs=a.vs
theorem Hd.like.refl (a:Hd):a.like a:=⟨rfl,rfl,rfl⟩
theorem Hd.like.trans {a b c:Hd}(h:a.like b)(h':b.like c):a.like c:=⟨h'.1.trans h.1,h'.2.1.trans h.2.1,h'.2.2.trans h.2.2⟩
def qU:Value->Bool
 | .agg _=>false
 | .tuple _=>false
 |_=>true
theorem Ci {v:Value}(h:qU v=true):v.cells= #[v]:=by cases v <;>first|rfl|simp[qU]at h
theorem nL {v:Value}(h:qU v=true):v.oneCell'=true:=by cases v <;>first|rfl|simp[qU]at h
def TE (x:Value)(sz:Nat)(lo hi:Int)(a:Option Addr):Prop:=hi.toNat<=lo.toNat\/∃ b o n cap,x=.slice (some ⟨b,o,none⟩) n cap/\hi.toNat<=n/\a=some ⟨b,o+lo.toNat*sz,none⟩
inductive Rel (F:Nat->Prop)(own:Own)(w:World):SV->Value->Prop where
 |any (v:Value):Rel F own w .any v
 |v (x:Value):Rel F own w (.v x) x
 |ptr {id off b:Nat} {hd:Hd}:own id=some hd->hd.p=some b->Rel F own w (.ptr id off) (.pointer (some ⟨b,off,none⟩))
 |os {id:Nat} {hd:Hd}:own id=some hd->qU hd.v=true->Rel F own w (.os id) hd.v
 |e0 {a:Option Addr}:Rel F own w .e0 (.slice a 0 0)
 |rc {k:Tag} {l:List k.T} {a:Option Addr}:Rel F own w (.rs k l) (.slice a l.length l.length)->Rel F own w (.rc k l) (.slice a l.length l.length)
 |rp {sz id off n cap b o:Nat} {i:Int} {hd:Hd}:own id=some hd->hd.v=.slice (some ⟨b,o,none⟩) n cap->i.toNat<n->Rel F own w (.rp sz id i off) (.pointer (some ⟨b,o+i.toNat*sz+off,none⟩))
 |gr {id:Nat} {i:Int} {v:Value} {hd:Hd}:own id=some hd->hd.vs[i.toNat]? =some v->qU v=true->Rel F own w (.gr id i) v
 |gp {sz id off n cap b o:Nat} {i j:Int} {hd:Hd}:own id=some hd->hd.vs[i.toNat]? =some (.slice (some ⟨b,o,none⟩) n cap)->j.toNat<n->Rel F own w (.gp sz id i j off) (.pointer (some ⟨b,o+j.toNat*sz+off,none⟩))
 |vw {sz id cap:Nat} {lo hi:Int} {hd:Hd} {a:Option Addr}:own id=some hd->TE hd.v sz lo hi a->hi.toNat - lo.toNat<=cap->Rel F own w (.vw sz id lo hi) (.slice a (hi.toNat - lo.toNat) cap)
 |ep {cells:List SV} {off b o:Nat} (c:Nat->Value):
   (∀ j s,cells[j]? =some s->¬bZ F own b/\w.cell? ⟨b,o+j,none⟩=some (c j))->(∀ j s,cells[j]? =some s->Rel F own w s (c j))->
   Rel F own w (.ep cells off) (.pointer (some ⟨b,o+off,none⟩))
 |rs {k:Tag} {l:List k.T} {b o cap:Nat} (c:Nat->Nat->Value):l.length<=cap->l.length<=aD->
   (∀ (i:Nat) (x:k.T),l[i]? =some x->∀ (j:Nat) (s:SV),(cellsOf k x)[j]? =some s->¬bZ F own b/\w.cell? ⟨b,o+i*aa k+j,none⟩=some (c i j))->
   (∀ (i:Nat) (x:k.T),l[i]? =some x->∀ (j:Nat) (s:SV),(cellsOf k x)[j]? =some s->Rel F own w s (c i j))->
   Rel F own w (.rs k l) (.slice (some ⟨b,o,none⟩) l.length cap)
 |rs0 {k:Tag} {a:Option Addr} {cap:Nat}:Rel F own w (.rs k []) (.slice a 0 cap)
 |ls {l:List SV} {b o cap:Nat} (c:Nat->Value):l.length<=cap->
   (∀ j s,l[j]? =some s->¬bZ F own b/\w.cell? ⟨b,o+j,none⟩=some (c j))->(∀ j s,l[j]? =some s->Rel F own w s (c j))->
   Rel F own w (.ls l) (.slice (some ⟨b,o,none⟩) l.length cap)
 |rm {kk vk:Tag} {l:List (kk.T×vk.T)} {b:Nat} (ck cv:Nat->Value) (es:Array MapEntry) (clock:Nat):¬bZ F own b->w.heap[b]? =some (.map es clock)->es.size=l.length->
   (∀ (i:Nat) (x:kk.T×vk.T),l[i]? =some x->∃ n,es[i]? =some ⟨ck i,cv i,n⟩)->
   (∀ (i:Nat) (x:kk.T×vk.T),l[i]? =some x->Rel F own w (svT kk x.1) (ck i))->(∀ (i:Nat) (x:kk.T×vk.T),l[i]? =some x->Rel F own w (svT vk x.2) (cv i))->
   Rel F own w (.rm kk vk l) (.map (some b))
 |rm0 {kk vk:Tag}:Rel F own w (.rm kk vk []) (.map none)
 |agg {l:List SV} {vs:Array Value}:vs.size=l.length->(∀ (j:Nat) (s:SV),l[j]? =some s->Rel F own w s (vs.getD j undef))->Rel F own w (.agg l) (.agg vs)
 |tup {l:List SV} {vs:Array Value}:vs.size=l.length->(∀ (j:Nat) (s:SV),l[j]? =some s->Rel F own w s (vs.getD j undef))->Rel F own w (.tup l) (.tuple vs)
 |fn {f:FuncId} {first caps:List SV} {us vs:Array Value}:us.size=first.length->vs.size=caps.length->(∀ (j:Nat) (s:SV),first[j]? =some s->Rel F own w s (us.getD j undef))->
   (∀ (j:Nat) (s:SV),caps[j]? =some s->Rel F own w s (vs.getD j undef))->Rel F own w (.fn f first caps) (.func (.func f) us vs)
structure Goes (F:Nat->Prop)(own:Own)(w:World)(own':Own)(w':World):Prop where
 ids:∀ (id:Nat) (hd:Hd),own id=some hd->∃ hd',own' id=some hd'/\hd.like hd'
 keep:∀ b,b<w.heap.size->¬bZ F own b->¬bZ F own' b/\w'.heap[b]? =w.heap[b]?
 size:w.heap.size<=w'.heap.size
structure Bs where
 w:World
 own:Own:=cO
 ds:List Deferred:=[]
def Old (B:Bs)(b:Nat):Prop:=b<B.w.heap.size/\¬ ∃ id hd,B.own id=some hd/\b∈hd.bs
structure Fr (B:Bs)(own:Own)(w:World):Prop where
 ids:∀ (id:Nat) (hd:Hd),B.own id=some hd->∃ hd',own id=some hd'/\hd.like hd'
 base:∀ (id:Nat) (hd:Hd) (b:Nat),own id=some hd->b∈hd.bs->¬Old B b
 os:w.os=B.w.os
 tape:w.tape=B.w.tape
 output:w.output=B.w.output
 size:B.w.heap.size<=w.heap.size
 block:∀ k,Old B k->w.heap[k]? =B.w.heap[k]?
theorem Fr.refl (B:Bs):Fr B B.own B.w:=⟨fun _ hd h=>⟨hd,h,.refl _⟩,fun id hd _ h hb ho=>ho.2 ⟨id,hd,h,hb⟩,rfl,rfl,rfl,Nat.le_refl _,fun _ _=>rfl⟩
theorem Fr.below {B:Bs}{own:Own}{w w':World}(h:Fr B own w)(hb:Below w.heap.size w w'):Fr B own w':=
 ⟨h.ids,h.base,hb.os.trans h.os,hb.tape.trans h.tape,hb.output.trans h.output,Nat.le_trans h.size hb.size,fun k hk=>(hb.block k (Nat.lt_of_lt_of_le hk.1 h.size)).trans (h.block k hk)⟩
theorem Fr.drew {B:Bs}{own:Own}{w:World}(h:Fr B own w):Fr B own { w with drawn:=w.drawn+1}:=⟨h.ids,h.base,h.os,h.tape,h.output,h.size,h.block⟩
theorem Fr.trans {B:Bs}{own own':Own}{w w':World}(h:Fr B own w)(h':Fr { w:=w,own:=own} own' w'):Fr B own' w':=by
 have hold:∀ k,Old B k->Old { w:=w,own:=own} k:=fun k hk=>⟨Nat.lt_of_lt_of_le hk.1 h.size,fun⟨id,hd,hm,hb⟩ =>h.base id hd k hm hb hk⟩;refine⟨fun id hd hi=>?_,fun id hd b hi hb ho=>h'.base id hd b hi hb (hold b ho),h'.os.trans h.os,h'.tape.trans h.tape,h'.output.trans h.output,Nat.le_trans h.size h'.size,
  fun k hk=>(h'.block k (hold k hk)).trans (h.block k hk)⟩
 obtain⟨hd1,e1,l1⟩:=h.ids id hd hi;obtain⟨hd2,e2,l2⟩:=h'.ids id hd1 e1;exact⟨hd2,e2,l1.trans l2⟩
theorem Fr.goes {F:Nat->Prop}{own own':Own}{w w':World}(h:Fr { w:=w,own:=own} own' w'):Goes F own w own' w':=
 ⟨h.ids,fun b hb hn=>by
  have ho:Old { w:=w,own:=own} b:=⟨hb,fun⟨id,hd,hm,he⟩ =>hn (.inr ⟨id,hd,hm,he⟩)⟩;refine⟨?_,h.block b ho⟩;rintro (hf| ⟨id,hd,hm,he⟩)
  ·exact hn (.inl hf)
  ·exact h.base id hd b hm he ho,h.size⟩
theorem Fr.of_step {own own':Own}{w w':World}(ids:∀ (id:Nat) (hd:Hd),own id=some hd->∃ hd',own' id=some hd'/\hd.like hd')
  (bs:∀ id hd b,own' id=some hd->b∈hd.bs->(∃ id' hd',own id'=some hd'/\b∈hd'.bs)\/w.heap.size<=b)
  (block:∀ b,b<w.heap.size->(¬ ∃ id hd,own id=some hd/\b∈hd.bs)->w'.heap[b]? =w.heap[b]?) (size:w.heap.size<=w'.heap.size)
  (os:w'.os=w.os) (tape:w'.tape=w.tape) (output:w'.output=w.output):Fr { w:=w,own:=own} own' w':=
 ⟨ids,fun id hd b h1 h2 ho=>by
  rcases bs id hd b h1 h2 with h|h
  ·exact ho.2 h
  ·have:=ho.1;simp at this;omega,os,tape,output,size,fun k hk=>block k hk.1 hk.2⟩
theorem Fl {w:World}{b o:Nat}{v:Value}(h:w.cell? ⟨b,o,none⟩=some v):b<w.heap.size:=World.block_lt_of_cell? w _ h
theorem sB {w w':World}{b:Nat}(h:w'.heap[b]? =w.heap[b]?)(o:Nat):w'.cell? ⟨b,o,none⟩=w.cell? ⟨b,o,none⟩:=by
 simp only[World.cell?,h]
theorem nM {w:World}{b:Nat}{o:Obj}(h:w.heap[b]? =some o):b<w.heap.size:=by
 rcases Nat.lt_or_ge b w.heap.size with h'|h'
 ·exact h'
 ·simp[Array.getElem?_eq_none h']at h
structure Carries (F:Nat->Prop)(own:Own)(w:World)(F':Nat->Prop)(own':Own)(w':World):Prop where
 ids:∀ (id:Nat) (hd:Hd),own id=some hd->∃ hd',own' id=some hd'/\hd.like hd'
 keep:∀ b,b<w.heap.size->¬bZ F own b->¬bZ F' own' b/\w'.heap[b]? =w.heap[b]?
theorem Goes.carries {F:Nat->Prop}{own own':Own}{w w':World}(g:Goes F own w own' w'):Carries F own w F own' w':=⟨g.ids,g.keep⟩
theorem Rel.carry {F F':Nat->Prop}{own own':Own}{w w':World}(g:Carries F own w F' own' w'){s:SV}{v:Value}(h:Rel F own w s v):Rel F' own' w' s v:=by
 induction h with
 |any v=>exact .any v
 |v x=>exact .v x
 |ptr h1 h2=>obtain⟨hd',e,l⟩:=g.ids _ _ h1;exact .ptr e (l.1.trans h2)
 |os h1 h2=>obtain⟨hd',e,l⟩:=g.ids _ _ h1;rw[<-l.2.1]at h2 |-;exact .os e h2
 |e0=>exact .e0
 |rc _ ih=>exact .rc ih
 |rp h1 h2 h3=>obtain⟨hd',e,l⟩:=g.ids _ _ h1;exact .rp e (l.2.1.trans h2) h3
 |gr h1 h2 h3=>obtain⟨hd',e,l⟩:=g.ids _ _ h1;exact .gr e (by rw[l.2.2];exact h2) h3
 |gp h1 h2 h3=>obtain⟨hd',e,l⟩:=g.ids _ _ h1;exact .gp e (by rw[l.2.2];exact h2) h3
 |vw h1 h2 h3=>obtain⟨hd',e,l⟩:=g.ids _ _ h1;exact .vw e (by rw[l.2.1];exact h2) h3
 |ep c h1 _ ih=>
  refine .ep c (fun j s hj=>?_) ih;obtain⟨hn,hc⟩:=h1 j s hj;obtain⟨hn',hk⟩:=g.keep _ (Fl hc) hn;exact⟨hn',by rw[sB hk];exact hc⟩
 |rs c h0 h0' h1 _ ih=>
  refine .rs c h0 h0' (fun i x hi j s hj=>?_) ih;obtain⟨hn,hc⟩:=h1 i x hi j s hj;obtain⟨hn',hk⟩:=g.keep _ (Fl hc) hn;exact⟨hn',by rw[sB hk];exact hc⟩
 |rs0=>exact .rs0
 |ls c h0 h1 _ ih=>
  refine .ls c h0 (fun j s hj=>?_) ih;obtain⟨hn,hc⟩:=h1 j s hj;obtain⟨hn',hk⟩:=g.keep _ (Fl hc) hn;exact⟨hn',by rw[sB hk];exact hc⟩
 |rm ck cv es clock h0 h1 h2 h3 _ _ ih1 ih2=>
  obtain⟨hn',hk⟩:=g.keep _ (nM h1) h0;exact .rm ck cv es clock hn' (by rw[hk];exact h1) h2 h3 ih1 ih2
 |rm0=>exact .rm0
 |agg h0 _ ih=>exact .agg h0 ih
 |tup h0 _ ih=>exact .tup h0 ih
 |fn h0 h0' _ _ ih1 ih2=>exact .fn h0 h0' ih1 ih2
theorem Rel.mono {F:Nat->Prop}{own own':Own}{w w':World}(g:Goes F own w own' w'){s:SV}{v:Value}(h:Rel F own w s v):Rel F own' w' s v:=h.carry g.carries
theorem Goes.refl (F:Nat->Prop)(own:Own)(w:World):Goes F own w own w:=⟨fun _ hd h=>⟨hd,h,.refl _⟩,fun _ _ h=>⟨h,rfl⟩,Nat.le_refl _⟩
theorem qV (w:World)(o:Obj)(b:Nat)(h:b<w.heap.size):(w.alloc o).heap[b]? =w.heap[b]?:=Below.heap_alloc w o b h
theorem mH (w:World)(o:Obj):(w.alloc o).heap[w.heap.size]? =some o:=by show(w.heap.push o)[w.heap.size]? =_;simp
theorem jM (w:World)(o:Obj):(w.alloc o).heap.size=w.heap.size+1:=by show(w.heap.push o).size=_;simp
theorem Goes.below (F:Nat->Prop)(own:Own){w w':World}(h:Below w.heap.size w w'):Goes F own w own w':=
 ⟨fun _ hd h=>⟨hd,h,.refl _⟩,fun b hb hn=>⟨hn,h.block b hb⟩,h.size⟩
theorem qW (w:World)(o:Obj):Below w.heap.size w (w.alloc o):=(Below.refl _ _).alloc (Nat.le_refl _) o
theorem gN {α:Type}:∀ (l:List α) (i:Nat),nth l i=l[i]?
 | [],i=>by simp[nth]
 |x::r,0=>by simp[nth]
 |x::r,i+1=>by simp[nth,gN r i]
theorem r9:∀ l:List SV,sz l=l.length
 | [] =>rfl
 |x::r=>by simp[sz,r9 r]
theorem Fo:∀ (n:Nat) (l:List SV),cut n l=l.take n
 |0,l=>by simp[cut]
 |n+1,[] =>by simp[cut]
 |n+1,x::r=>by simp[cut,Fo n r]
theorem BB:∀ (n:Nat) (l:List SV),GH n l=l.drop n
 |0,l=>by simp[GH]
 |n+1,[] =>by simp[GH]
 |n+1,x::r=>by simp[GH,BB n r]
theorem y7:∀ (l:List SV) (i:Nat) (s:SV),B2 l i s=l.set i s
 | [],i,s=>by simp[B2]
 |x::r,0,s=>by simp[B2]
 |x::r,i+1,s=>by simp[B2,y7 r i s]
theorem oD:∀ (vs cells:List SV) (off:Nat),(iq cells off vs).length=cells.length
 | [],cells,off=>rfl
 |x::xs,cells,off=>by simp[iq,oD xs,y7]
theorem pt:∀ (vs cells:List SV) (off:Nat),off+vs.length<=cells.length->∀ j,(iq cells off vs)[j]? =if off<=j/\j<off+vs.length then vs[j - off]? else cells[j]?
 | [],cells,off,_,j=>by simp only[iq,List.length_nil];rw[if_neg (by omega)]
 |x::xs,cells,off,h,j=>by
  simp only[List.length_cons]at h;rw[iq,pt xs _ _ (by simp[y7];omega),y7];by_cases hj:off+1<=j/\j<off+1+xs.length
  ·rw[if_pos hj,if_pos (by simp;omega),show j - off=(j - (off+1))+1 by omega,List.getElem?_cons_succ]
  ·rw[if_neg hj,List.getElem?_set];by_cases hjo:off=j
   ·subst hjo;rw[if_pos rfl,if_pos (by omega),if_pos (by simp)];simp
   ·rw[if_neg hjo,if_neg (by simp;omega)]
theorem qM:∀ (h:List Ob) (id:Nat),al h id=(h[id]?).getD .dead
 | [],id=>by simp[al]
 |o::r,0=>by simp[al]
 |o::r,n+1=>by simp[al,qM r n]
theorem c9:∀ (h:List Ob) (id:Nat) (x:Ob) (j:Nat),al (bA h id x) j=if id=j then x else al h j
 | [],0,x,j=>by cases j <;>simp[bA,al]
 | [],n+1,x,j=>by
  cases j with
  |zero=>simp[bA,al]
  |succ j=>simp only[bA,al,c9 [] n x j];by_cases h:n=j <;>simp[h]
 |o::r,0,x,j=>by cases j <;>simp[bA,al]
 |o::r,n+1,x,j=>by
  cases j with
  |zero=>simp[bA,al]
  |succ j=>simp only[bA,al,c9 r n x j];by_cases h:n=j <;>simp[h]
theorem bV:∀ (h:List Ob) (id:Nat) (x:Ob),(bA h id x).length=if id<h.length then h.length else id+1
 | [],0,x=>by simp[bA]
 | [],n+1,x=>by simp[bA,bV [] n x]
 |o::r,0,x=>by simp[bA]
 |o::r,n+1,x=>by simp only[bA,List.length_cons,bV r n x];by_cases h:n<r.length <;>simp[h] <;>omega
theorem qX {h:List Ob}{id:Nat}(hi:h.length<=id):al h id=.dead:=by rw[qM,List.getElem?_eq_none hi];rfl
theorem qY (h l:List Ob)(id:Nat):al (h++l) id=if id<h.length then al h id else al l (id - h.length):=by
 rw[qM,qM,qM,List.getElem?_append];split <;>rfl
theorem Cj {F:Nat->Prop}{own:Own}{w:World}{s:SV}{v:Value}{l:List SV}(h:Rel F own w s v)(hf:qc s=some l):
  v.cells.size=l.length/\∀ (j:Nat) (x:SV),l[j]? =some x->Rel F own w x (v.cells.getD j undef):=by
 have one:∀ {s:SV} {v:Value},Rel F own w s v->v.cells= #[v]->qc s=some [s]->qc s=some l->v.cells.size=l.length/\∀ (j:Nat) (x:SV),l[j]? =some x->Rel F own w x (v.cells.getD j undef):=by
  intro s v h hc h1 h2;rw[h1]at h2;simp only[Option.some.injEq]at h2;subst h2;rw[hc];refine⟨rfl,fun j x hj=>?_⟩;cases j with
  |zero=>simp at hj;subst hj;simpa using h
  |succ j=>simp at hj
 cases h with
 |any=>simp[qc]at hf
 |v=>
  cases v <;>first|exact one (.v _) rfl rfl hf|simp[qc]at hf
  subst hf;rename_i cs;refine⟨by simp[Value.cells],fun j y hj=>?_⟩;simp at hj;obtain⟨z,hz,rfl⟩:=hj;simp[Value.cells,hz];exact .v _
 |ptr h1 h2=>exact one (.ptr h1 h2) rfl rfl hf
 |os h1 h2=>exact one (.os h1 h2) (Ci h2) rfl hf
 |e0=>exact one .e0 rfl rfl hf
 |rc h=>exact one (.rc h) rfl rfl hf
 |rp h1 h2 h3=>exact one (.rp h1 h2 h3) rfl rfl hf
 |gr h1 h2 h3=>exact one (.gr h1 h2 h3) (Ci h3) rfl hf
 |gp h1 h2 h3=>exact one (.gp h1 h2 h3) rfl rfl hf
 |vw h1 h2 h3=>exact one (.vw h1 h2 h3) rfl rfl hf
 |ep c h1 h2=>exact one (.ep c h1 h2) rfl rfl hf
 |rs c h0 h0' h1 h2=>exact one (.rs c h0 h0' h1 h2) rfl rfl hf
 |rs0=>exact one .rs0 rfl rfl hf
 |ls c h0 h1 h2=>exact one (.ls c h0 h1 h2) rfl rfl hf
 |rm ck cv es clock h0 h1 h2 h3 h4 h5=>exact one (.rm ck cv es clock h0 h1 h2 h3 h4 h5) rfl rfl hf
 |rm0=>exact one .rm0 rfl rfl hf
 |agg h0 h1=>simp[qc]at hf;subst hf;exact⟨h0,h1⟩
 |tup=>simp[qc]at hf
 |fn h0 h0' h1 h2=>exact one (.fn h0 h0' h1 h2) rfl rfl hf
end Go.Sx
end
