/- Part of the proof that the law JudgementSitSpec returns true and leaves its arguments as they were, for all arguments of bulk at most 1048576 (the Upto form). -/
import Derived.Calls
import Derived.Orders
import Derived.Below
import Derived.KernelRfl
import Derived.Laws.Sem
import Derived.Laws.World
import Derived.Laws.Cells
set_option linter.all false
set_option maxHeartbeats 4000000
set_option maxRecDepth 100000
section
namespace Go.Sx
open Go.RowKit
structure Range where
 lo:Int
 hi:Int
 deriving Inhabited,DecidableEq
structure Ratio where
 n:Int
 d:Int
 deriving Inhabited,DecidableEq
structure Reach where
 name:ByteArray
 up:Int
 delay:Int
 cap:Int
 bank:Int
 siphon:Int
 evap:Range
 seep:Ratio×Ratio
 deriving Inhabited,DecidableEq
structure Farm where
 name:ByteArray
 reach:Int
 area:Int
 crop:Int
 deriving Inhabited,DecidableEq
structure Crop where
 name:ByteArray
 need:Int
 deriving Inhabited,DecidableEq
structure Right where
 name:ByteArray
 kind:Int
 farm:Int
 reach:Int
 rank:Int
 litres:Int
 since:Int
 to:Int
 every:Int
 length:Int
 deriving Inhabited,DecidableEq
structure Duty where
 name:ByteArray
 farm:Int
 reach:Int
 due:Int
 deriving Inhabited,DecidableEq
structure Well where
 farm:Int
 reach:Int
 d:Int
 kernel:List Int
 deriving Inhabited,DecidableEq
structure Claim where
 right:Int
 farm:Int
 hour:Int
 litres:Int
 rank:Int
 deriving Inhabited,DecidableEq
structure Judgement where
 no:Int
 hour:Int
 kind:Int
 farm:Int
 other:Int
 since:Int
 to:Int
 n:Int
 of_:Int
 deriving Inhabited,DecidableEq
structure Case where
 no:Int
 hour:Int
 winner:Int
 facts:List Int
 reason:List Int
 deriving Inhabited,DecidableEq
structure Clause where
 no:Int
 then_:Int
 rank:Int
 strict:Bool
 if_:List Int
 deriving Inhabited,DecidableEq
structure Plea where
 facts:List Int
 clauses:List Clause
 deriving Inhabited,DecidableEq
structure Suit where
 no:Int
 hour:Int
 question:Int
 plea:Plea
 facts:List Int
 deriving Inhabited,DecidableEq
structure Order where
 hour:Int
 index:Int
 litres:Int
 outlet:Bool
 deriving Inhabited,DecidableEq
structure PrecedentsDecided where
 winner:Int
 facts:Int
 reason:Int
 deriving Inhabited,DecidableEq
structure Reason where
 literal:Int
 clause:Int
 proved:Bool
 deriving Inhabited,DecidableEq
structure TimetableSlot where
 index:Int
 hour:Int
 deriving Inhabited,DecidableEq
structure Tank where
 cap:Int
 start:Int
 deriving Inhabited,DecidableEq
structure District where
 name:ByteArray
 hours:Int
 tank:Tank
 reaches:List Reach
 farms:List Farm
 crops:List Crop
 rights:List Right
 duties:List Duty
 wells:List Well
 deriving Inhabited,DecidableEq
structure Cases where
 sides:List Int
 cases:List Case
 deriving Inhabited,DecidableEq
structure PrecedentsCourt where
 favour:Int×Int
 cases:List PrecedentsDecided
 deriving Inhabited,DecidableEq
structure PleasCourt where
 plea:Plea
 strict:List (Int×Bool)
 known:List (Int×Int)
 deriving Inhabited,DecidableEq
structure Fault where
 kind:Int
 hour:Int
 index:Int
 litres:Int
 limit:Int
 deriving Inhabited,DecidableEq
structure Acequiaref51State where
 strict:List Int
 proved:List Int
 refuted:List Int
 deriving Inhabited,DecidableEq
inductive Tag where
 |reach|farm|crop|right|duty|int|well|claim|judgement|case|clause|suit|bool|order|fnc|precedentsDecided|reason|int2|timetableSlot|tank|district|cases|plea|precedentsCourt|pleasCourt|fault|ratio|ratio2|range|acequiaref51State|str
 deriving DecidableEq
abbrev Tag.T:Tag->Type
 | .reach=>Reach
 | .farm=>Farm
 | .crop=>Crop
 | .right=>Right
 | .duty=>Duty
 | .int=>Int
 | .well=>Well
 | .claim=>Claim
 | .judgement=>Judgement
 | .case=>Case
 | .clause=>Clause
 | .suit=>Suit
 | .bool=>Bool
 | .order=>Order
 | .fnc=>Option Nat
 | .precedentsDecided=>PrecedentsDecided
 | .reason=>Reason
 | .int2=>Int×Int
 | .timetableSlot=>TimetableSlot
 | .tank=>Tank
 | .district=>District
 | .cases=>Cases
 | .plea=>Plea
 | .precedentsCourt=>PrecedentsCourt
 | .pleasCourt=>PleasCourt
 | .fault=>Fault
 | .ratio=>Ratio
 | .ratio2=>Ratio×Ratio
 | .range=>Range
 | .acequiaref51State=>Acequiaref51State
 | .str=>ByteArray
def yD:Tag->Nat
 | .reach=>0
 | .farm=>1
 | .crop=>2
 | .right=>3
 | .duty=>4
 | .int=>5
 | .well=>6
 | .claim=>7
 | .judgement=>8
 | .case=>9
 | .clause=>10
 | .suit=>11
 | .bool=>12
 | .order=>13
 | .fnc=>14
 | .precedentsDecided=>15
 | .reason=>16
 | .int2=>17
 | .timetableSlot=>18
 | .tank=>19
 | .district=>20
 | .cases=>21
 | .plea=>22
 | .precedentsCourt=>23
 | .pleasCourt=>24
 | .fault=>25
 | .ratio=>26
 | .ratio2=>27
 | .range=>28
 | .acequiaref51State=>29
 | .str=>30
def rank:Tag->Nat
 | .reach=>0
 | .farm=>0
 | .crop=>0
 | .right=>0
 | .duty=>0
 | .int=>0
 | .well=>1
 | .claim=>0
 | .judgement=>0
 | .case=>1
 | .clause=>1
 | .suit=>2
 | .bool=>0
 | .order=>0
 | .fnc=>1
 | .precedentsDecided=>0
 | .reason=>0
 | .int2=>0
 | .timetableSlot=>0
 | .tank=>0
 | .district=>2
 | .cases=>2
 | .plea=>2
 | .precedentsCourt=>1
 | .pleasCourt=>2
 | .fault=>0
 | .ratio=>0
 | .ratio2=>0
 | .range=>0
 | .acequiaref51State=>1
 | .str=>0
def Tag.ofName:String->Option Tag
 | "api.Reach" =>some .reach
 | "api.Farm" =>some .farm
 | "api.Crop" =>some .crop
 | "api.Right" =>some .right
 | "api.Duty" =>some .duty
 | "api.Errno" =>some .int
 | "expand.refused" =>some .int
 | "int" =>some .int
 | "int64" =>some .int
 | "api.Well" =>some .well
 | "api.Claim" =>some .claim
 | "api.Judgement" =>some .judgement
 | "api.Case" =>some .case
 | "api.Clause" =>some .clause
 | "api.Suit" =>some .suit
 | "bool" =>some .bool
 | "api.Order" =>some .order
 | "func() bool" =>some .fnc
 | "func(api.Order) int" =>some .fnc
 | "func(judgement.docket, api.Judgement) judgement.docket" =>some .fnc
 | "precedents.decided" =>some .precedentsDecided
 | "api.Reason" =>some .reason
 | "[2]int" =>some .int2
 | "[2]precedents.set" =>some .int2
 | "timetable.slot" =>some .timetableSlot
 | "api.Tank" =>some .tank
 | "api.District" =>some .district
 | "api.Cases" =>some .cases
 | "api.Plea" =>some .plea
 | "precedents.court" =>some .precedentsCourt
 | "pleas.court" =>some .pleasCourt
 | "api.Fault" =>some .fault
 | "api.Ratio" =>some .ratio
 | "[2]api.Ratio" =>some .ratio2
 | "api.Range" =>some .range
 | "acequiaref51.state" =>some .acequiaref51State
 | "string" =>some .str
 |_=>none
instance instDecTag:(k:Tag)->DecidableEq k.T
 | .reach=>inferInstanceAs (DecidableEq (Reach))
 | .farm=>inferInstanceAs (DecidableEq (Farm))
 | .crop=>inferInstanceAs (DecidableEq (Crop))
 | .right=>inferInstanceAs (DecidableEq (Right))
 | .duty=>inferInstanceAs (DecidableEq (Duty))
 | .int=>inferInstanceAs (DecidableEq (Int))
 | .well=>inferInstanceAs (DecidableEq (Well))
 | .claim=>inferInstanceAs (DecidableEq (Claim))
 | .judgement=>inferInstanceAs (DecidableEq (Judgement))
 | .case=>inferInstanceAs (DecidableEq (Case))
 | .clause=>inferInstanceAs (DecidableEq (Clause))
 | .suit=>inferInstanceAs (DecidableEq (Suit))
 | .bool=>inferInstanceAs (DecidableEq (Bool))
 | .order=>inferInstanceAs (DecidableEq (Order))
 | .fnc=>inferInstanceAs (DecidableEq (Option Nat))
 | .precedentsDecided=>inferInstanceAs (DecidableEq (PrecedentsDecided))
 | .reason=>inferInstanceAs (DecidableEq (Reason))
 | .int2=>inferInstanceAs (DecidableEq (Int×Int))
 | .timetableSlot=>inferInstanceAs (DecidableEq (TimetableSlot))
 | .tank=>inferInstanceAs (DecidableEq (Tank))
 | .district=>inferInstanceAs (DecidableEq (District))
 | .cases=>inferInstanceAs (DecidableEq (Cases))
 | .plea=>inferInstanceAs (DecidableEq (Plea))
 | .precedentsCourt=>inferInstanceAs (DecidableEq (PrecedentsCourt))
 | .pleasCourt=>inferInstanceAs (DecidableEq (PleasCourt))
 | .fault=>inferInstanceAs (DecidableEq (Fault))
 | .ratio=>inferInstanceAs (DecidableEq (Ratio))
 | .ratio2=>inferInstanceAs (DecidableEq (Ratio×Ratio))
 | .range=>inferInstanceAs (DecidableEq (Range))
 | .acequiaref51State=>inferInstanceAs (DecidableEq (Acequiaref51State))
 | .str=>inferInstanceAs (DecidableEq (ByteArray))
structure Res where
 yv:Value
 n:Nat
 R:(Nat->Prop)->List Nat->World->Prop
 loc:∀ (F F':Nat->Prop) (bs:List Nat) (w w':World),R F bs w->w.heap.size<=w'.heap.size->(∀ b,b<w.heap.size->¬F b->w'.heap[b]? =w.heap[b]?)->(∀ b,b<w.heap.size->F' b->F b)->R F' bs w'
instance:Inhabited Res:=⟨⟨.nilFunc,0,fun _ _ _=>True,fun _ _ _ _ _ _ _ _ _=>trivial⟩⟩
inductive SV where
 |any
 |v (x:Value)
 |ptr (id off:Nat)
 |os (id:Nat)
 |e0
 |rp (sz id:Nat) (i:Int) (off:Nat)
 |gr (id:Nat) (i:Int)
 |gp (sz id:Nat) (i j:Int) (off:Nat)
 |ep (cells:List SV) (off:Nat)
 |rs (k:Tag) (l:List k.T)
 |ls (l:List SV)
 |rm (kk vk:Tag) (l:List (kk.T×vk.T))
 |agg (l:List SV)
 |tup (l:List SV)
 |fn (f:FuncId) (first caps:List SV)
 |nw (k:Tag) (l:List k.T)
 |nm (kk vk:Tag) (l:List (kk.T×vk.T))
 |ng (k:Tag) (l:List (List k.T))
 |gd (j:Nat) (want:Bool) (s:SV)
 |vw (sz id:Nat) (lo hi:Int)
 |rc (k:Tag) (l:List k.T)
 deriving Inhabited
abbrev SV.i (n:Int):SV:=.v (.int .i64 n)
abbrev SV.b (x:Bool):SV:=.v (.bool x)
abbrev SV.s (x:ByteArray):SV:=.v (.string x)
def fnV:Option Nat->SV|some f=>.fn f [] [] |none=>.v .nilFunc
def cellsOf:(k:Tag)->k.T->List SV
 | .reach,x=>[.v (.string x.name),.v (.int .i64 x.up),.v (.int .i64 x.delay),.v (.int .i64 x.cap),.v (.int .i64 x.bank),.v (.int .i64 x.siphon),.v (.int .i64 x.evap.lo),.v (.int .i64 x.evap.hi),.v (.int .i64 x.seep.1.n),.v (.int .i64 x.seep.1.d),.v (.int .i64 x.seep.2.n),.v (.int .i64 x.seep.2.d)]
 | .farm,x=>[.v (.string x.name),.v (.int .i64 x.reach),.v (.int .i64 x.area),.v (.int .i64 x.crop)]
 | .crop,x=>[.v (.string x.name),.v (.int .i64 x.need)]
 | .right,x=>[.v (.string x.name),.v (.int .i64 x.kind),.v (.int .i64 x.farm),.v (.int .i64 x.reach),.v (.int .i64 x.rank),.v (.int .i64 x.litres),.v (.int .i64 x.since),.v (.int .i64 x.to),.v (.int .i64 x.every),.v (.int .i64 x.length)]
 | .duty,x=>[.v (.string x.name),.v (.int .i64 x.farm),.v (.int .i64 x.reach),.v (.int .i64 x.due)]
 | .int,x=>[.v (.int .i64 x)]
 | .well,x=>[.v (.int .i64 x.farm),.v (.int .i64 x.reach),.v (.int .i64 x.d),.rs .int x.kernel]
 | .claim,x=>[.v (.int .i64 x.right),.v (.int .i64 x.farm),.v (.int .i64 x.hour),.v (.int .i64 x.litres),.v (.int .i64 x.rank)]
 | .judgement,x=>[.v (.int .i64 x.no),.v (.int .i64 x.hour),.v (.int .i64 x.kind),.v (.int .i64 x.farm),.v (.int .i64 x.other),.v (.int .i64 x.since),.v (.int .i64 x.to),.v (.int .i64 x.n),.v (.int .i64 x.of_)]
 | .case,x=>[.v (.int .i64 x.no),.v (.int .i64 x.hour),.v (.int .i64 x.winner),.rs .int x.facts,.rs .int x.reason]
 | .clause,x=>[.v (.int .i64 x.no),.v (.int .i64 x.then_),.v (.int .i64 x.rank),.v (.bool x.strict),.rs .int x.if_]
 | .suit,x=>[.v (.int .i64 x.no),.v (.int .i64 x.hour),.v (.int .i64 x.question),.rs .int x.plea.facts,.rs .clause x.plea.clauses,.rs .int x.facts]
 | .bool,x=>[.v (.bool x)]
 | .order,x=>[.v (.int .i64 x.hour),.v (.int .i64 x.index),.v (.int .i64 x.litres),.v (.bool x.outlet)]
 | .fnc,x=>[fnV x]
 | .precedentsDecided,x=>[.v (.int .i64 x.winner),.v (.int .u64 x.facts),.v (.int .u64 x.reason)]
 | .reason,x=>[.v (.int .i64 x.literal),.v (.int .i64 x.clause),.v (.bool x.proved)]
 | .int2,x=>[.v (.int .i64 x.1),.v (.int .i64 x.2)]
 | .timetableSlot,x=>[.v (.int .i64 x.index),.v (.int .i64 x.hour)]
 | .tank,x=>[.v (.int .i64 x.cap),.v (.int .i64 x.start)]
 | .district,x=>[.v (.string x.name),.v (.int .i64 x.hours),.v (.int .i64 x.tank.cap),.v (.int .i64 x.tank.start),.rs .reach x.reaches,.rs .farm x.farms,.rs .crop x.crops,.rs .right x.rights,.rs .duty x.duties,.rs .well x.wells]
 | .cases,x=>[.rs .int x.sides,.rs .case x.cases]
 | .plea,x=>[.rs .int x.facts,.rs .clause x.clauses]
 | .precedentsCourt,x=>[.v (.int .u64 x.favour.1),.v (.int .u64 x.favour.2),.rs .precedentsDecided x.cases]
 | .pleasCourt,x=>[.rs .int x.plea.facts,.rs .clause x.plea.clauses,.rm .int .bool x.strict,.rm .int .int x.known]
 | .fault,x=>[.v (.int .i64 x.kind),.v (.int .i64 x.hour),.v (.int .i64 x.index),.v (.int .i64 x.litres),.v (.int .i64 x.limit)]
 | .ratio,x=>[.v (.int .i64 x.n),.v (.int .i64 x.d)]
 | .ratio2,x=>[.v (.int .i64 x.1.n),.v (.int .i64 x.1.d),.v (.int .i64 x.2.n),.v (.int .i64 x.2.d)]
 | .range,x=>[.v (.int .i64 x.lo),.v (.int .i64 x.hi)]
 | .acequiaref51State,x=>[.rs .int x.strict,.rs .int x.proved,.rs .int x.refuted]
 | .str,x=>[.v (.string x)]
def ae:Tag->Nat
 | .reach=>12
 | .farm=>4
 | .crop=>2
 | .right=>10
 | .duty=>4
 | .int=>1
 | .well=>4
 | .claim=>5
 | .judgement=>9
 | .case=>5
 | .clause=>5
 | .suit=>6
 | .bool=>1
 | .order=>4
 | .fnc=>1
 | .precedentsDecided=>3
 | .reason=>3
 | .int2=>2
 | .timetableSlot=>2
 | .tank=>2
 | .district=>10
 | .cases=>2
 | .plea=>2
 | .precedentsCourt=>3
 | .pleasCourt=>4
 | .fault=>5
 | .ratio=>2
 | .ratio2=>4
 | .range=>2
 | .acequiaref51State=>3
 | .str=>1
theorem bf (k:Tag)(x:k.T):(cellsOf k x).length=ae k:=by cases k <;>rfl
def fS:(k:Tag)->k.T
 | .reach=>(default:Reach)
 | .farm=>(default:Farm)
 | .crop=>(default:Crop)
 | .right=>(default:Right)
 | .duty=>(default:Duty)
 | .int=>(0:Int)
 | .well=>(default:Well)
 | .claim=>(default:Claim)
 | .judgement=>(default:Judgement)
 | .case=>(default:Case)
 | .clause=>(default:Clause)
 | .suit=>(default:Suit)
 | .bool=>false
 | .order=>(default:Order)
 | .fnc=>(default:Option Nat)
 | .precedentsDecided=>(default:PrecedentsDecided)
 | .reason=>(default:Reason)
 | .int2=>(default:Int×Int)
 | .timetableSlot=>(default:TimetableSlot)
 | .tank=>(default:Tank)
 | .district=>(default:District)
 | .cases=>(default:Cases)
 | .plea=>(default:Plea)
 | .precedentsCourt=>(default:PrecedentsCourt)
 | .pleasCourt=>(default:PleasCourt)
 | .fault=>(default:Fault)
 | .ratio=>(default:Ratio)
 | .ratio2=>(default:Ratio×Ratio)
 | .range=>(default:Range)
 | .acequiaref51State=>(default:Acequiaref51State)
 | .str=>(ByteArray.mk #[])
inductive Kd where
 |s|b|n (k:IntKind) |r (k:Tag) |m (k k2:Tag) |f
def pb:Tag->Bool
 | .reach=>true
 | .farm=>true
 | .crop=>true
 | .right=>true
 | .duty=>true
 | .int=>false
 | .well=>true
 | .claim=>true
 | .judgement=>true
 | .case=>true
 | .clause=>true
 | .suit=>true
 | .bool=>false
 | .order=>true
 | .fnc=>false
 | .precedentsDecided=>true
 | .reason=>true
 | .int2=>true
 | .timetableSlot=>true
 | .tank=>true
 | .district=>true
 | .cases=>true
 | .plea=>true
 | .precedentsCourt=>true
 | .pleasCourt=>true
 | .fault=>true
 | .ratio=>true
 | .ratio2=>true
 | .range=>true
 | .acequiaref51State=>true
 | .str=>false
def FR:(k:Tag)->List (List k.T)->SV
 |_,_=>.any
def d6:Tag->List Kd
 | .reach=>[.s,.n .i64,.n .i64,.n .i64,.n .i64,.n .i64,.n .i64,.n .i64,.n .i64,.n .i64,.n .i64,.n .i64]
 | .farm=>[.s,.n .i64,.n .i64,.n .i64]
 | .crop=>[.s,.n .i64]
 | .right=>[.s,.n .i64,.n .i64,.n .i64,.n .i64,.n .i64,.n .i64,.n .i64,.n .i64,.n .i64]
 | .duty=>[.s,.n .i64,.n .i64,.n .i64]
 | .int=>[.n .i64]
 | .well=>[.n .i64,.n .i64,.n .i64,.r .int]
 | .claim=>[.n .i64,.n .i64,.n .i64,.n .i64,.n .i64]
 | .judgement=>[.n .i64,.n .i64,.n .i64,.n .i64,.n .i64,.n .i64,.n .i64,.n .i64,.n .i64]
 | .case=>[.n .i64,.n .i64,.n .i64,.r .int,.r .int]
 | .clause=>[.n .i64,.n .i64,.n .i64,.b,.r .int]
 | .suit=>[.n .i64,.n .i64,.n .i64,.r .int,.r .clause,.r .int]
 | .bool=>[.b]
 | .order=>[.n .i64,.n .i64,.n .i64,.b]
 | .fnc=>[.f]
 | .precedentsDecided=>[.n .i64,.n .u64,.n .u64]
 | .reason=>[.n .i64,.n .i64,.b]
 | .int2=>[.n .i64,.n .i64]
 | .timetableSlot=>[.n .i64,.n .i64]
 | .tank=>[.n .i64,.n .i64]
 | .district=>[.s,.n .i64,.n .i64,.n .i64,.r .reach,.r .farm,.r .crop,.r .right,.r .duty,.r .well]
 | .cases=>[.r .int,.r .case]
 | .plea=>[.r .int,.r .clause]
 | .precedentsCourt=>[.n .u64,.n .u64,.r .precedentsDecided]
 | .pleasCourt=>[.r .int,.r .clause,.m .int .bool,.m .int .int]
 | .fault=>[.n .i64,.n .i64,.n .i64,.n .i64,.n .i64]
 | .ratio=>[.n .i64,.n .i64]
 | .ratio2=>[.n .i64,.n .i64,.n .i64,.n .i64]
 | .range=>[.n .i64,.n .i64]
 | .acequiaref51State=>[.r .int,.r .int,.r .int]
 | .str=>[.s]
def toI:SV->Int| .v (.int _ n) =>n|_=>0
def toB:SV->Bool| .v (.bool b) =>b|_=>false
def toS:SV->ByteArray| .v (.string s) =>s|_=>ByteArray.mk #[]
def toF:SV->Option Nat| .fn f [] [] =>some f|_=>none
def zC:SV->List Reach| .rs .reach l=>l|_=>[]
def Bj:SV->List Farm| .rs .farm l=>l|_=>[]
def Bk:SV->List Crop| .rs .crop l=>l|_=>[]
def zD:SV->List Right| .rs .right l=>l|_=>[]
def Bl:SV->List Duty| .rs .duty l=>l|_=>[]
def l9:SV->List Int| .rs .int l=>l|_=>[]
def Bm:SV->List Well| .rs .well l=>l|_=>[]
def DC:SV->List Claim| .rs .claim l=>l|_=>[]
def xI:SV->List Judgement| .rs .judgement l=>l|_=>[]
def Bn:SV->List Case| .rs .case l=>l|_=>[]
def sL:SV->List Clause| .rs .clause l=>l|_=>[]
def FT:SV->List Suit| .rs .suit l=>l|_=>[]
def FU:SV->List Bool| .rs .bool l=>l|_=>[]
def DD:SV->List Order| .rs .order l=>l|_=>[]
def Jv:SV->List (Option Nat) | .rs .fnc l=>l|_=>[]
def lR:SV->List PrecedentsDecided| .rs .precedentsDecided l=>l|_=>[]
def Bo:SV->List Reason| .rs .reason l=>l|_=>[]
def FV:SV->List (Int×Int) | .rs .int2 l=>l|_=>[]
def tK:SV->List TimetableSlot| .rs .timetableSlot l=>l|_=>[]
def FW:SV->List Tank| .rs .tank l=>l|_=>[]
def yE:SV->List District| .rs .district l=>l|_=>[]
def DE:SV->List Cases| .rs .cases l=>l|_=>[]
def FX:SV->List Plea| .rs .plea l=>l|_=>[]
def r8:SV->List PrecedentsCourt| .rs .precedentsCourt l=>l|_=>[]
def wn:SV->List PleasCourt| .rs .pleasCourt l=>l|_=>[]
def DF:SV->List Fault| .rs .fault l=>l|_=>[]
def DG:SV->List Ratio| .rs .ratio l=>l|_=>[]
def Bp:SV->List (Ratio×Ratio) | .rs .ratio2 l=>l|_=>[]
def DH:SV->List Range| .rs .range l=>l|_=>[]
def qk:SV->List Acequiaref51State| .rs .acequiaref51State l=>l|_=>[]
def Jw:SV->List ByteArray| .rs .str l=>l|_=>[]
def u7:SV->List (Int×Bool) | .rm .int .bool l=>l|_=>[]
def wo:SV->List (Int×Int) | .rm .int .int l=>l|_=>[]
def at0:List SV->Nat->SV
 | [],_=>.any
 |x::_,0=>x
 |_::r,n+1=>at0 r n
def mkE:(k:Tag)->List SV->k.T
 | .reach,l=>(⟨toS (at0 l 0),toI (at0 l 1),toI (at0 l 2),toI (at0 l 3),toI (at0 l 4),toI (at0 l 5),⟨toI (at0 l 6),toI (at0 l 7)⟩,(⟨toI (at0 l 8),toI (at0 l 9)⟩,⟨toI (at0 l 10),toI (at0 l 11)⟩)⟩:Reach)
 | .farm,l=>(⟨toS (at0 l 0),toI (at0 l 1),toI (at0 l 2),toI (at0 l 3)⟩:Farm)
 | .crop,l=>(⟨toS (at0 l 0),toI (at0 l 1)⟩:Crop)
 | .right,l=>(⟨toS (at0 l 0),toI (at0 l 1),toI (at0 l 2),toI (at0 l 3),toI (at0 l 4),toI (at0 l 5),toI (at0 l 6),toI (at0 l 7),toI (at0 l 8),toI (at0 l 9)⟩:Right)
 | .duty,l=>(⟨toS (at0 l 0),toI (at0 l 1),toI (at0 l 2),toI (at0 l 3)⟩:Duty)
 | .int,l=>(toI (at0 l 0):Int)
 | .well,l=>(⟨toI (at0 l 0),toI (at0 l 1),toI (at0 l 2),l9 (at0 l 3)⟩:Well)
 | .claim,l=>(⟨toI (at0 l 0),toI (at0 l 1),toI (at0 l 2),toI (at0 l 3),toI (at0 l 4)⟩:Claim)
 | .judgement,l=>(⟨toI (at0 l 0),toI (at0 l 1),toI (at0 l 2),toI (at0 l 3),toI (at0 l 4),toI (at0 l 5),toI (at0 l 6),toI (at0 l 7),toI (at0 l 8)⟩:Judgement)
 | .case,l=>(⟨toI (at0 l 0),toI (at0 l 1),toI (at0 l 2),l9 (at0 l 3),l9 (at0 l 4)⟩:Case)
 | .clause,l=>(⟨toI (at0 l 0),toI (at0 l 1),toI (at0 l 2),toB (at0 l 3),l9 (at0 l 4)⟩:Clause)
 | .suit,l=>(⟨toI (at0 l 0),toI (at0 l 1),toI (at0 l 2),⟨l9 (at0 l 3),sL (at0 l 4)⟩,l9 (at0 l 5)⟩:Suit)
 | .bool,l=>(toB (at0 l 0):Bool)
 | .order,l=>(⟨toI (at0 l 0),toI (at0 l 1),toI (at0 l 2),toB (at0 l 3)⟩:Order)
 | .fnc,l=>(toF (at0 l 0):Option Nat)
 | .precedentsDecided,l=>(⟨toI (at0 l 0),toI (at0 l 1),toI (at0 l 2)⟩:PrecedentsDecided)
 | .reason,l=>(⟨toI (at0 l 0),toI (at0 l 1),toB (at0 l 2)⟩:Reason)
 | .int2,l=>((toI (at0 l 0),toI (at0 l 1)):Int×Int)
 | .timetableSlot,l=>(⟨toI (at0 l 0),toI (at0 l 1)⟩:TimetableSlot)
 | .tank,l=>(⟨toI (at0 l 0),toI (at0 l 1)⟩:Tank)
 | .district,l=>(⟨toS (at0 l 0),toI (at0 l 1),⟨toI (at0 l 2),toI (at0 l 3)⟩,zC (at0 l 4),Bj (at0 l 5),Bk (at0 l 6),zD (at0 l 7),Bl (at0 l 8),Bm (at0 l 9)⟩:District)
 | .cases,l=>(⟨l9 (at0 l 0),Bn (at0 l 1)⟩:Cases)
 | .plea,l=>(⟨l9 (at0 l 0),sL (at0 l 1)⟩:Plea)
 | .precedentsCourt,l=>(⟨(toI (at0 l 0),toI (at0 l 1)),lR (at0 l 2)⟩:PrecedentsCourt)
 | .pleasCourt,l=>(⟨⟨l9 (at0 l 0),sL (at0 l 1)⟩,u7 (at0 l 2),wo (at0 l 3)⟩:PleasCourt)
 | .fault,l=>(⟨toI (at0 l 0),toI (at0 l 1),toI (at0 l 2),toI (at0 l 3),toI (at0 l 4)⟩:Fault)
 | .ratio,l=>(⟨toI (at0 l 0),toI (at0 l 1)⟩:Ratio)
 | .ratio2,l=>((⟨toI (at0 l 0),toI (at0 l 1)⟩,⟨toI (at0 l 2),toI (at0 l 3)⟩):Ratio×Ratio)
 | .range,l=>(⟨toI (at0 l 0),toI (at0 l 1)⟩:Range)
 | .acequiaref51State,l=>(⟨l9 (at0 l 0),l9 (at0 l 1),l9 (at0 l 2)⟩:Acequiaref51State)
 | .str,l=>(toS (at0 l 0):ByteArray)
def kN:IntKind->Nat
 | .i8=>0| .i16=>1| .i32=>2| .i64=>3| .u8=>4| .u16=>5| .u32=>6| .u64=>7
def fit:Kd->SV->Bool
 | .s,.v (.string _) =>true
 | .b,.v (.bool _) =>true
 | .n k,.v (.int k' _) =>Nat.beq (kN k) (kN k')
 | .r k,.rs k' _=>Nat.beq (yD k) (yD k')
 | .m k k2,.rm k' k2' _=>Nat.beq (yD k) (yD k')&&Nat.beq (yD k2) (yD k2')
 | .f,.fn _ [] [] =>true
 | .f,.v .nilFunc=>true
 |_,_=>false
def uv:List Kd->List SV->Bool
 | [],[] =>true
 |k::ks,x::xs=>fit k x&&uv ks xs
 |_,_=>false
def FY:Kd->SV->SV
 | .r k,.v (.slice none 0 0) =>.rs k []
 | .r k,.e0=>.rs k []
 | .m k k2,.v (.map none) =>.rm k k2 []
 |_,s=>s
def xD:List Kd->List SV->List SV
 |k::ks,s::r=>FY k s::xD ks r
 |_,l=>l
def uw (k:Tag)(l:List SV):Option k.T:=bif uv (d6 k) l then some (mkE k l)else none
def pc (k:Tag)(l:List SV):Option k.T:=uw k (xD (d6 k) l)
inductive Pk where
 |st (k:Tag)
 |sl (k:Tag)
 |mp (k k2:Tag)
 |o
def zF:Pk->SV->SV
 | .st k,.agg l=>.agg (xD (d6 k) l)
 | .sl k,s=>FY (.r k) s
 | .mp k k2,s=>FY (.m k k2) s
 |_,s=>s
def aP:List Pk->List SV->List SV
 |p::ps,s::r=>zF p s::aP ps r
 |_,l=>l
structure TI where
 size:Nat
 bytes:Nat
 agg:Bool
 zero:List SV
 fields:List (Nat×Nat×Bool)
 elem:Nat
 len:Nat
 isSlice:Bool
 isArr:Bool
 tag:Option Tag
 int:Option IntKind
 iface:Bool
 eq:List Nat
 mkt:Option Tag
 mvt:Option Tag
 sc:Nat
def svs (v:Value):List SV:=v.cells.toList.map .v
def n_ (P:Program)(t:TypeId):Nat:=match P.info? t with|some i=>i.size|none=>0
def kS (P:Program)(t:TypeId):Bool:=match P.underlying t with|some (.struct _) =>true|some (.array _ _) =>true|_=>false
def bL:Option TypeDesc->Nat
 |some (.int _) =>1
 |some .string=>2
 |some .bool=>3
 |_=>0
def eqFields (P:Program):Nat->List Field->Bool
 |_,[] =>true
 |n,f::r=>(f.name != "_")&&Nat.beq f.offset n&&Nat.blt 0 (bL (P.underlying f.type))&&eqFields P (n+1) r
def oC (P:Program)(t:TypeId)(d:TypeDesc):List Nat:=match d with
 | .struct fs=>bif !P.stoodInHeld t&& !P.eqGuardType P.depth t&&eqFields P 0 fs.toList then fs.toList.map fun f=>bL (P.underlying f.type)else []
 | .array n e=>bif !P.eqGuardType P.depth t&&Nat.blt 0 (bL (P.underlying e))&&Nat.beq (n_ P e) 1 then List.replicate n (bL (P.underlying e))else []
 |_=>[]
def oa (P:Program)(t:TypeId):List Nat:=match P.underlying t with
 |some (.struct gs) =>bif !P.stoodInHeld t&&eqFields P 0 gs.toList&&Nat.beq (n_ P t) gs.size&&(P.info? t).isSome then gs.toList.map fun f=>bL (P.underlying f.type)else []
 |d=>bif Nat.blt 0 (bL d)then [bL d]else []
def ux (P:Program):Nat->List Field->Bool
 |_,[] =>true
 |n,f::r=>(f.name != "_")&&Nat.beq f.offset n&&Nat.blt 0 (oa P f.type).length&&ux P (n+(oa P f.type).length) r
def Ev (P:Program)(t:TypeId)(d:TypeDesc):List Nat:=match d with
 | .struct fs=>bif !P.stoodInHeld t&& !P.eqGuardType P.depth t&&ux P 0 fs.toList then fs.toList.flatMap fun f=>oa P f.type else []
 |_=>[]
def Mu (P:Program)(t:TypeId)(d:TypeDesc):List Nat:=match oC P t d with
 | [] =>Ev P t d
 |l=>l
def Jx:SV->SV->Bool
 | .v (.int k a),.v (.int k' b) =>Nat.beq (kN k) (kN k')&&(match a,b with| .ofNat 0,.ofNat 0=>true|_,_=>false)
 | .v (.string a),.v (.string b) =>Nat.beq a.size 0&&Nat.beq b.size 0
 | .v (.bool false),.v (.bool false) =>true
 | .rs _ [],.v (.slice none 0 0) =>true
 | .rm _ _ [],.v (.map none) =>true
 | .v .nilFunc,.v .nilFunc=>true
 |_,_=>false
def ui:List SV->List SV->Bool
 | [],[] =>true
 |a::r,b::s=>Jx a b&&ui r s
 |_,_=>false
def zG:Bool->Bool->Bool
 |true,true=>true
 |false,false=>true
 |_,_=>false
def Bq:Value->Bool
 | .agg _=>true
 |_=>false
def zH (P:Program)(t:TypeId)(i:TypeInfo)(k:Tag):Bool:=
 (match i.zero with|some z=>zG (Bq z) (pb k) |none=>false)&&Nat.beq i.size (ae k)&&Nat.ble 1 i.bytes&&ui (cellsOf k (fS k)) (match i.zero with|some z=>svs z|none=>[])&&zG (kS P t) (pb k)
def xJ (P:Program)(t:TypeId)(i:TypeInfo):Option Tag:=match Tag.ofName i.str with|some k=>bif zH P t i k then some k else none|none=>none
def FZ (P:Program)(t:TypeId):Option Tag:=match P.info? t with|some i=>xJ P t i|none=>none
def iG:Kd->Nat
 | .n _=>1
 | .s=>2
 | .b=>3
 |_=>0
def Br:List Nat->List Nat->Bool
 | [],[] =>true
 |a::r,b::s=>Nat.beq a b&&Br r s
 |_,_=>false
def HW (P:Program)(t:TypeId)(k:Tag):Bool:=match P.underlying t with
 |some d=>bif kS P t then Br ((d6 k).map iG) (oC P t d)&&Nat.blt 0 (d6 k).length else Br ((d6 k).map iG) [bL (some d)]&&Nat.blt 0 (bL (some d))
 |none=>false
def F4 (P:Program)(t:TypeId):Option Tag:=match FZ P t with|some k=>bif HW P t k then some k else none|none=>none
def c5 (P:Program)(t:TypeId)(i:TypeInfo)(d:TypeDesc):TI:=
 {size:=i.size
  bytes:=i.bytes
  agg:=kS P t
  zero:=match i.zero with|some z=>svs z|none=>[]
  fields:=match d with| .struct fs=>fs.toList.map fun f=>(f.offset,n_ P f.type,kS P f.type) |_=>[]
  elem:=match d with| .slice e=>e| .array _ e=>e| .map _ e=>e|_=>0
  len:=match d with| .array n _=>n|_=>0
  isSlice:=match d with| .slice _=>true|_=>false
  isArr:=match d with| .array _ _=>true|_=>false
  tag:=xJ P t i
  int:=match d with| .int k=>some k|_=>none
  iface:=match d with| .interface _=>true|_=>false
  eq:=Mu P t d
  mkt:=match d with| .map k _=>F4 P k|_=>none
  mvt:=match d with| .map _ e=>FZ P e|_=>none
  sc:=bL (some d)}
def wp (P:Program)(d:TypeDesc):Bool:=match d with| .struct fs=>fs.toList.all fun f=>(P.info? f.type).isSome&&(P.underlying f.type).isSome|_=>true
def cw (P:Program)(t:TypeId):Option TI:=
 match P.info? t,P.underlying t with
 |some i,some d=>bif i.zero.isSome&&wp P d then some (c5 P t i d)else none
 |_,_=>none
abbrev Tis:=TypeId->Option TI
def Tis.ok (ts:Tis)(P:Program):Prop:= ∀ t i,ts t=some i->cw P t=some i
inductive Ob where
 |cells (l:List SV)
 |dead
 |row (k:Tag) (l:List k.T)
 |mp (kk vk:Tag) (l:List (kk.T×vk.T)) (pend:Option (Nat×Option kk.T))
 |grid (k:Tag) (l:List (List k.T))
 |ab (r:Res)
 |raw (o:Obj)
 |mi (mid:Option Nat) (n:Nat) (left:List Nat) (cur:Option Nat)
 |fwd (n:Option Nat)
 |fz (k:Tag) (l:List k.T)
instance:Inhabited Ob:=⟨.dead⟩
structure St where
 t:List (Nat×SV)
 h:List Ob
 deriving Inhabited
def lk (t:Nat):List (Nat×SV)->SV
 | [] =>.any
 |(a,s)::r=>bif Nat.beq a t then s else lk t r
def St.put (st:St)(d:Option Nat)(s:SV):St:=match d with|some d=>⟨(d,s)::st.t,st.h⟩ |none=>st
def al:List Ob->Nat->Ob
 | [],_=>.dead
 |o::_,0=>o
 |_::r,n+1=>al r n
def aW:List Ob->Nat->Ob->List Ob
 | [],0,x=>[x]
 | [],n+1,x=>.dead::aW [] n x
 |_::r,0,x=>x::r
 |o::r,n+1,x=>o::aW r n x
abbrev Up:=Nat×Ob
def noE {κ:Type}:Option (Nat×Option κ)->Bool
 |some (_,some _) =>false
 |_=>true
def aS (h:List Ob):List Up->List Ob
 | [] =>h
 |(id,o)::r=>aS (aW h id o) r
inductive Con where
 |det (pre:Prop) (s:SV)
 |rel (α:Type) (pre:Prop) (post:α->Prop) (out:α->SV)
 |may (ok:Bool) (s:SV) (x:Value)
inductive Rs where
 |ret (s:SV) (h:List Ob)
 |pan (x:Value) (h:List Ob)
structure HCon where
 α:Type
 pre:Prop
 post:α->Prop
 res:α->Rs
structure YCon where
 α:Type
 pre:Prop
 post:α->Prop
 res:α->Bool×Res
structure Cons where
 p:FuncId->List SV->Option Con
 o:FuncId->List SV->List Ob->Option HCon
 y:List SV->Res->Option YCon
def qh:SV->Option (List SV)
 | .agg l=>some l
 | .v (.agg cs) =>some (cs.toList.map .v)
 | .v (.tuple _) =>none
 | .any=>none
 | .tup _=>none
 | .gd .. =>none
 | .nw .. =>none
 | .nm .. =>none
 | .ng .. =>none
 |s=>some [s]
def nth {α:Type}:List α->Nat->Option α
 | [],_=>none
 |x::_,0=>some x
 |_::r,n+1=>nth r n
def cut:Nat->List SV->List SV
 |0,_=>[]
 |_+1,[] =>[]
 |n+1,x::r=>x::cut n r
def F5:Nat->List SV->List SV
 |0,l=>l
 |_+1,[] =>[]
 |n+1,_::r=>F5 n r
def sz:List SV->Nat
 | [] =>0
 |_::r=>sz r+1
def rM (agg:Bool)(size:Nat)(cells:List SV)(off:Nat):Option SV:=
 bif agg then(bif Nat.ble (off+size) (sz cells)then some (.agg (cut size (F5 off cells)))else none)
 else nth cells off
def Bt:List SV->Nat->SV->List SV
 | [],_,_=>[]
 |_::r,0,s=>s::r
 |x::r,n+1,s=>x::Bt r n s
def gT (cells:List SV)(off:Nat):List SV->List SV
 | [] =>cells
 |x::xs=>gT (Bt cells off x) (off+1) xs
section
variable {κ υ:Type}
def nu [DecidableEq κ]:List (κ×υ)->κ->Option υ
 | [],_=>none
 |(a,b)::r,x=>if x=a then some b else nu r x
def zI [DecidableEq κ]:List (κ×υ)->κ->υ->List (κ×υ)
 | [],x,y=>[(x,y)]
 |(a,b)::r,x,y=>if x=a then(x,y)::r else(a,b)::zI r x y
def HX [DecidableEq κ]:List (κ×υ)->κ->Nat
 | [],_=>0
 |(a,_)::r,x=>if x=a then 0 else HX r x+1
end
def bg (kk vk:Tag)(l:List (kk.T×vk.T))(x:kk.T):vk.T:=(nu l x).getD (fS vk)
def Jy (kk vk:Tag)(l:List (kk.T×vk.T))(x:kk.T):Bool:=(nu l x).isSome
def iH (kk vk:Tag)(l:List (kk.T×vk.T))(x:kk.T)(y:vk.T):List (kk.T×vk.T):=zI l x y
def HY {κ υ:Type}[DecidableEq κ]:List (κ×υ)->κ->List (κ×υ)
 | [],_=>[]
 |(a,b)::r,x=>if x=a then r else(a,b)::HY r x
def DI (kk vk:Tag)(l:List (kk.T×vk.T))(x:kk.T):List (kk.T×vk.T):=HY l x
def r9 (kk vk:Tag)(l:List (kk.T×vk.T))(x:kk.T):Nat:=HX l x
def XB (kk vk:Tag)(l:List (kk.T×vk.T))(x:kk.T):Option kk.T:=if(nu l x).isSome then none else some x
def svT (k:Tag)(x:k.T):SV:=bif pb k then .agg (cellsOf k x)else(nth (cellsOf k x) 0).getD .any
def Al (k:Tag):Option (List SV)->Option k.T
 |some l=>pc k l
 |none=>none
def yF:SV->Option (List SV)
 | .agg l=>some l
 | .v (.agg cs) =>some (cs.toList.map .v)
 |_=>none
def zJ:SV->Option (List SV)
 | .agg _=>none
 | .v (.agg _) =>none
 |s=>qh s
def unT (k:Tag)(s:SV):Option k.T:=bif pb k then Al k (yF s)else Al k (zJ s)
inductive OR where
 |val (s:SV)
 |chk (c:Prop) (s:SV)
 |asm (c:Prop) (s:SV)
 |newr (s:SV)
 |eff (c a:Prop) (ups:List Up) (s:SV)
 |call (f:FuncId) (args:List SV)
 |yld (id:Nat) (args:List SV)
 |nxt (id:Nat)
 |amb (p:Bool->Prop)
 |pan (x:Value)
 |bad
structure Cx where
 ts:Tis
 ops:List Oper
 g:Option (Nat×Bool)
 st:St
 nx:Nat
def qO (ops:List Oper):Nat->Option (Nat×Bool)->Nat->Bool->Bool
 |0,_,_,_=>false
 |_+1,none,_,_=>false
 |n+1,some (j,b),j',b'=>bif Nat.beq j j'&&zG b b' then true else qO ops n ((nth ops j).bind (·.guard)) j' b'
def be (ops:List Oper)(g:Option (Nat×Bool)):SV->SV
 | .gd j b s=>bif qO ops ops.length g j b then s else .any
 | .any=>.any
 | .v x=>.v x
 | .ptr a b=>.ptr a b
 | .os a=>.os a
 | .e0=>.e0
 | .rc a b=>.rc a b
 | .rp a b c d=>.rp a b c d
 | .gr a b=>.gr a b
 | .gp a b c d e=>.gp a b c d e
 | .ep a b=>.ep a b
 | .rs k l=>.rs k l
 | .ls l=>.ls l
 | .rm k k2 l=>.rm k k2 l
 | .agg l=>.agg l
 | .tup l=>.tup l
 | .fn f l m=>.fn f l m
 | .nw k l=>.nw k l
 | .nm k k2 l=>.nm k k2 l
 | .ng k l=>.ng k l
 | .vw a b c d=>.vw a b c d
def raw (t:List (Nat×SV)):Operand->SV
 | .tmp n=>lk n t
 | .const x=>.v x
 | .func f=>.fn f [] []
 | .global _=>.any
def val (cx:Cx)(x:Operand):SV:=be cx.ops cx.g (raw cx.st.t x)
def cA (cx:Cx):List Operand->List SV
 | [] =>[]
 |x::r=>val cx x::cA cx r
def pa (cx:Cx):Option Operand->Option SV
 |some x=>some (val cx x)
 |none=>none
def gU (cx:Cx):List (Nat×Operand)->List (Nat×SV)
 | [] =>[]
 |(i,x)::r=>(i,val cx x)::gU cx r
def isTrue:Operand->Bool
 | .const (.bool true) =>true
 |_=>false
def isFalse:Operand->Bool
 | .const (.bool false) =>true
 |_=>false
def DJ (ops:List Oper)(j:Nat)(c:Operand):Bool:=
 match (nth ops j).bind (·.dst),c with
 |some d,.tmp t=>Nat.beq d t
 |_,_=>false
def lw (ops:List Oper)(g:Option (Nat×Bool))(c:Operand)(want:Bool):SV->SV
 | .gd j b s=>bif zG b want&&DJ ops j c then s else be ops g (.gd j b s)
 |s=>be ops g s
def Bu (a b:Operand):SV->SV->SV->OR
 | .v (.bool x),.v (.bool y),.v (.bool z) =>bif isTrue a then .val (.b (x||z))else bif isFalse b then .val (.b (x&&y))else .bad
 | .v (.bool x),.any,.v (.bool z) =>.chk (x=false) (.b z)
 | .v (.bool x),.v (.bool y),.any=>.chk (x=true) (.b y)
 |_,_,_=>.bad
def XC (k:IntKind)(a b:Int):Int:=a.fdiv (2 ^ min b.toNat k.bits)
def zK (k:IntKind)(a b:Int):Int:=k.wrap (a*2 ^ min b.toNat k.bits)
def wa (k:IntKind)(a b:Int):Int:=k.wrap ((BitVec.ofInt k.bits a&&&BitVec.ofInt k.bits b).toNat:Int)
def orI (k:IntKind)(a b:Int):Int:=k.wrap ((BitVec.ofInt k.bits a|||BitVec.ofInt k.bits b).toNat:Int)
def XD (k:IntKind)(a b:Int):Int:=k.wrap ((BitVec.ofInt k.bits a ^^^ BitVec.ofInt k.bits b).toNat:Int)
def nv (k:IntKind)(a b:Int):Int:=k.wrap ((BitVec.ofInt k.bits a&&& ~~~(BitVec.ofInt k.bits b)).toNat:Int)
def uz (op:BinOp)(k:IntKind)(a b:Int):OR:=
 match op with
 | .add=>.val (.v (.int k (k.wrap (a+b))))
 | .sub=>.val (.v (.int k (k.wrap (a - b))))
 | .mul=>.val (.v (.int k (k.wrap (a*b))))
 | .quo=>.chk (b≠0) (.v (.int k (k.wrap (a.tdiv b))))
 | .rem=>.chk (b≠0) (.v (.int k (a.tmod b)))
 | .shr=>.chk (0<=b) (.v (.int k (XC k a b)))
 | .shl=>.chk (0<=b) (.v (.int k (zK k a b)))
 | .and=>.val (.v (.int k (wa k a b)))
 | .or=>.val (.v (.int k (orI k a b)))
 | .xor=>.val (.v (.int k (XD k a b)))
 | .andNot=>.val (.v (.int k (nv k a b)))
 | .eql=>.val (.v (.bool (a==b)))
 | .neq=>.val (.v (.bool (a !=b)))
 | .lss=>.val (.v (.bool (decide (a<b))))
 | .leq=>.val (.v (.bool (decide (a<=b))))
 | .gtr=>.val (.v (.bool (decide (a > b))))
 | .geq=>.val (.v (.bool (decide (a>=b))))
def Jz (op:BinOp)(a b:ByteArray):OR:=
 match op with
 | .eql=>.val (.v (.bool (a==b)))
 | .neq=>.val (.v (.bool (a !=b)))
 |_=>.bad
def Ew (op:BinOp)(a b:Bool):OR:=
 match op with
 | .eql=>.val (.v (.bool (a==b)))
 | .neq=>.val (.v (.bool (a !=b)))
 |_=>.bad
def eqV (c:Nat):SV->SV->Option Bool
 | .v (.int k a),.v (.int k' b) =>bif Nat.beq c 1&&Nat.beq (kN k) (kN k')then some (a==b)else none
 | .v (.string a),.v (.string b) =>bif Nat.beq c 2 then some (a==b)else none
 | .v (.bool a),.v (.bool b) =>bif Nat.beq c 3 then some (a==b)else none
 |_,_=>none
def yb:Option Bool->Option Bool->Option Bool
 |some a,some b=>some (a&&b)
 |_,_=>none
def eqL:List Nat->List SV->List SV->Option Bool
 | [],[],[] =>some true
 |c::cs,x::r,y::s=>yb (eqV c x y) (eqL cs r s)
 |_,_,_=>none
def eqO (op:BinOp):Option Bool->OR
 |some b=>match op with| .eql=>.val (.v (.bool b)) | .neq=>.val (.v (.bool !b)) |_=>.bad
 |none=>.bad
def S6 (op:BinOp)(l m:List SV):List Nat->OR
 | [] =>.bad
 |c::cs=>eqO op (eqL (c::cs) l m)
def aD (ts:Tis)(t:TypeId)(k:TI->OR):OR:=match ts t with|some i=>k i|none=>.bad
def eqT (op:BinOp)(l m:List SV)(ti:TI):OR:=S6 op l m ti.eq
def yG (op:BinOp)(k k':IntKind):Bool:=
 match op with
 | .shl=>true
 | .shr=>true
 |_=>Nat.beq (kN k) (kN k')
def S7 (op:BinOp):SV->SV->OR
 | .v (.int k a),.v (.int k' b) =>bif yG op k k' then uz op k a b else .bad
 |_,_=>.bad
def Px (op:BinOp)(p:Prop):OR:=
 match op with
 | .eql=>.amb fun b=>b=true->p
 | .neq=>.amb fun b=>b=false->p
 |_=>.bad
def eqS (op:BinOp)(ti:TI):SV->SV->OR
 | .rs _ l,.v (.slice none 0 0) =>bif ti.isSlice then Px op (l=[])else .bad
 | .v (.string a),.v (.string b) =>bif Nat.beq ti.sc 2 then Jz op a b else .bad
 | .v (.bool a),.v (.bool b) =>bif Nat.beq ti.sc 3 then Ew op a b else .bad
 | .agg l,.agg m=>eqT op l m ti
 |_,_=>.bad
def Ey (ts:Tis)(op:BinOp)(t:TypeId):SV->SV->OR
 | .v (.int k a),.v (.int k' b) =>S7 op (.v (.int k a)) (.v (.int k' b))
 |a,b=>aD ts t fun ti=>eqS op ti a b
def unS:UnOp->SV->OR
 | .not,.v (.bool b) =>.val (.v (.bool !b))
 | .neg,.v (.int k n) =>.val (.v (.int k (k.wrap (0 - n))))
 |_,_=>.bad
def uA:Option SV->OR
 |some s=>.val s
 |none=>.bad
def Bv (agg:Bool)(size szt:Nat)(id:Nat)(i:Int)(off:Nat):Ob->OR
 | .row k l=>bif Nat.beq szt (ae k)then uA (rM agg size (cellsOf k (l.getD i.toNat (fS k))) off)else .bad
 | .grid _ _=>bif Nat.beq szt 1&&Nat.beq off 0&& !agg then .val (.gr id i)else .bad
 |_=>.bad
def zL (agg:Bool)(size szt:Nat)(i j:Int)(off:Nat):Ob->OR
 | .grid k l=>bif Nat.beq szt (ae k)then uA (rM agg size (cellsOf k ((l.getD i.toNat []).getD j.toNat (fS k))) off)else .bad
 |_=>.bad
def yH (agg:Bool)(size off:Nat):Ob->OR
 | .cells l=>uA (rM agg size l off)
 |_=>.bad
def qZ (ti:TI)(h:List Ob):SV->OR
 | .ptr id off=>yH ti.agg ti.size off (al h id)
 | .ep l off=>uA (rM ti.agg ti.size l off)
 | .rp s id i off=>Bv ti.agg ti.size s id i off (al h id)
 | .gp s id i j off=>zL ti.agg ti.size s i j off (al h id)
 |_=>.bad
def yI (n:Nat):SV->OR
 | .ptr id off=>.val (.ptr id (off+n))
 | .ep l off=>.val (.ep l (off+n))
 | .rp s id i off=>.val (.rp s id i (off+n))
 | .gp s id i j off=>.val (.gp s id i j (off+n))
 |_=>.bad
def Bw (esz id:Nat)(i:Int):Ob->OR
 | .row k l=>bif Nat.beq esz (ae k)then .chk (0<=i/\i< (l.length:Int)) (.rp esz id i 0)else .bad
 | .grid _ l=>bif Nat.beq esz 1 then .chk (0<=i/\i< (l.length:Int)) (.rp 1 id i 0)else .bad
 |_=>.bad
def Ez (esz id:Nat)(i j:Int):Ob->OR
 | .grid k l=>bif Nat.beq esz (ae k)then .chk (0<=j/\j< ((l.getD i.toNat []).length:Int)) (.gp esz id i j 0)else .bad
 |_=>.bad
def HZ (i:Int):Option SV->OR
 |some s=>.chk (0<=i) (.ep [s] 0)
 |none=>.bad
def hM (ti:TI)(esz:Nat)(h:List Ob):SV->SV->OR
 | .rs k l,.v (.int _ i) =>bif ti.isSlice&&Nat.beq esz (ae k)then .chk (0<=i/\i< (l.length:Int)) (.ep (cellsOf k (l.getD i.toNat (fS k))) 0)else .bad
 | .os id,.v (.int _ i) =>bif ti.isSlice then Bw esz id i (al h id)else .bad
 | .gr id i,.v (.int _ j) =>bif ti.isSlice then Ez esz id i j (al h id)else .bad
 | .ls l,.v (.int _ i) =>bif ti.isSlice&&Nat.beq esz 1 then HZ i (nth l i.toNat)else .bad
 | .ptr id off,.v (.int _ i) =>bif ti.isArr then .chk (0<=i/\i< (ti.len:Int)) (.ptr id (off+i.toNat*esz))else .bad
 | .ep l off,.v (.int _ i) =>bif ti.isArr then .chk (0<=i/\i< (ti.len:Int)) (.ep l (off+i.toNat*esz))else .bad
 | .rp s id i off,.v (.int _ j) =>bif ti.isArr then .chk (0<=j/\j< (ti.len:Int)) (.rp s id i (off+j.toNat*esz))else .bad
 |_,_=>.bad
def mA (place:Nat->Option (Nat×Nat))(cells:List SV):List (Nat×SV)->Option (List SV)
 | [] =>some cells
 |(i,v)::rest=>
  match place i,qh v with
  |some (off,size),some vs=>bif Nat.beq (sz vs) size&&Nat.ble (off+size) (sz cells)then mA place (gT cells off vs) rest else none
  |_,_=>none
def sa (k:Tag)(size:Nat):Nat->List SV->Option (List k.T)
 |0,_=>some []
 |n+1,cells=>match pc k (cut size cells),sa k size n (F5 size cells)with
  |some x,some xs=>some (x::xs)
  |_,_=>none
def AI (n:Nat)(z:List SV):List SV:=match n with|0=>[] |n+1=>z++AI n z
def sM (f:Option (Nat×Nat×Bool))(l:Option (List SV)):OR:=
 match f,l with
 |some (o,n,g),some l=>uA (rM g n l o)
 |_,_=>.bad
def H0:SV->Bool
 | .v (.agg _) =>false
 | .v (.tuple _) =>false
 | .any=>false
 | .agg _=>false
 | .tup _=>false
 | .gd .. =>false
 | .nw .. =>false
 | .nm .. =>false
 | .ng .. =>false
 |_=>true
def u9:List SV->Bool
 | [] =>true
 |x::r=>H0 x&&u9 r
def H1 (k:Tag)(id:Nat)(i:Int)(l:List k.T):Option k.T->OR
 |some x=>.eff True True [(id,.row k (l.set i.toNat x))] .any
 |none=>.bad
def EA (k:Tag)(id:Nat)(i j:Int)(l:List (List k.T)):Option k.T->OR
 |some x=>.eff True True [(id,.grid k (l.set i.toNat ((l.getD i.toNat []).set j.toNat x)))] .any
 |none=>.bad
def H2 (id off:Nat)(vs:List SV):Ob->OR
 | .cells l=>bif Nat.ble (off+sz vs) (sz l)&&u9 vs then .eff True True [(id,.cells (gT l off vs))] .any else .bad
 |_=>.bad
def H3 (s id:Nat)(i:Int)(off:Nat)(vs:List SV):Ob->OR
 | .row k l=>bif Nat.beq s (ae k)&&Nat.ble (off+sz vs) s then H1 k id i l (pc k (gT (cellsOf k (l.getD i.toNat (fS k))) off vs))else .bad
 |_=>.bad
def H4 (s id:Nat)(i j:Int)(off:Nat)(vs:List SV):Ob->OR
 | .grid k l=>bif Nat.beq s (ae k)&&Nat.ble (off+sz vs) s then EA k id i j l (pc k (gT (cellsOf k ((l.getD i.toNat []).getD j.toNat (fS k))) off vs))else .bad
 |_=>.bad
def rN (size:Nat)(h:List Ob):SV->Option (List SV)->OR
 | .ptr id off,some vs=>bif Nat.beq (sz vs) size then H2 id off vs (al h id)else .bad
 | .rp s id i off,some vs=>bif Nat.beq (sz vs) size then H3 s id i off vs (al h id)else .bad
 | .gp s id i j off,some vs=>bif Nat.beq (sz vs) size then H4 s id i j off vs (al h id)else .bad
 |_,_=>.bad
def EB:Ob->Bool
 | .grid _ _=>true
 |_=>false
def Mv (k:Tag)(nx id rid:Nat)(i:Int)(l:List (List k.T)):Option (List k.T)->OR
 |some m=>.eff True True [(id,.dead),(rid,.dead),(nx,.grid k (l.set i.toNat m)),(id,.fwd (some nx))] .any
 |none=>.bad
def H5 (k:Tag):Ob->Option (List k.T)
 | .row k' l=>if h:k'=k then some (h▸l)else none
 |_=>none
def Bx (nx:Nat)(h:List Ob)(id rid:Nat)(i:Int):Ob->OR
 | .grid k l=>Mv k nx id rid i l (H5 k (al h rid))
 |_=>.bad
def rO (size nx:Nat)(h:List Ob):SV->SV->OR
 | .rp s id i off,.os rid=>bif EB (al h id)then(bif Nat.beq size 1&&Nat.beq s 1&&Nat.beq off 0&& !(Nat.beq id rid)then Bx nx h id rid i (al h id)else .bad)else rN size h (.rp s id i off) (qh (.os rid))
 |a,x=>rN size h a (qh x)
def Mw:SV->OR
 | .ptr id off=>.val (.ptr id off)
 | .ep l off=>.val (.ep l off)
 | .rp a b c d=>.val (.rp a b c d)
 | .gp a b c d e=>.val (.gp a b c d e)
 | .fn f first caps=>.val (.fn f first caps)
 |_=>.bad
def F6:Option IntKind->SV->OR
 |some k,.v (.int _ n) =>.val (.v (.int k (k.wrap n)))
 |_,_=>.bad
def EC (nx:Nat):Option (List SV)->OR
 |some l=>.eff True True [(nx,.cells l)] (.ptr nx 0)
 |none=>.bad
def H6:Option (List SV)->OR
 |some l=>.val (.agg l)
 |none=>.bad
def Mx (k:Tag):Option (List k.T)->OR
 |some xs=>.newr (.rs k xs)
 |none=>.bad
def lsS (n:Nat)(l:List SV):OR:=bif Nat.beq (sz l) n&&u9 l then .newr (.ls l)else .bad
def bsT (k:Tag)(ti te:TI)(n:Nat):Option (List SV)->OR
 |some l=>bif Nat.beq te.size (ae k)&&ti.isSlice&&Nat.ble (n*te.size) 16777216&&Nat.beq (sz te.zero) te.size then Mx k (sa k te.size n l)else .bad
 |none=>.bad
def bsU (ti te:TI)(n:Nat):Option (List SV)->OR
 |some l=>bif Nat.beq te.size 1&&ti.isSlice&&Nat.ble (n*te.size) 16777216&&Nat.beq (sz te.zero) te.size then lsS n l else .bad
 |none=>.bad
def noG:Option (Nat×Bool)->Bool
 |none=>true
 |some _=>false
def XE:Op->Bool
 | .call ⟨.value _,_,_⟩ =>true
 |_=>false
def XF:Op->Bool
 | .call ⟨.builtin .append,_,_⟩ =>true
 |_=>false
def My:List Oper->Bool
 | [] =>false
 |o::r=>XE o.op||My r
def JA:List Oper->Bool
 | [] =>false
 |o::r=>XF o.op||JA r
def XG:Op->Bool
 | .call ⟨.builtin .clear,_,_⟩ =>true
 |_=>false
def Mz:List Oper->Bool
 | [] =>false
 |o::r=>XG o.op||Mz r
def S8:Op->Bool
 | .slice .. =>true
 |_=>false
def H7:List Oper->Bool
 | [] =>false
 | [o] =>S8 o.op
 |_::r=>H7 r
def JB:List Oper->List Nat
 | [] =>[]
 |o::r=>bif S8 o.op then o.dst.toList++JB r else JB r
def F7 (ds:List Nat):List Operand->Bool
 | [] =>false
 | .tmp d::r=>ds.any (Nat.beq d) ||F7 ds r
 |_::r=>F7 ds r
def MA:Op->List Operand
 | .call ⟨.value _,args,_⟩ =>args.toList
 |_=>[]
def S9 (ds:List Nat):List Oper->Bool
 | [] =>false
 |o::r=>F7 ds (MA o.op) ||S9 ds r
def F8 (ops:List Oper):Bool:=JA ops||Mz ops||H7 ops||S9 (JB ops) ops
def XH (ops:List Oper)(g:Option (Nat×Bool)):Option (Nat×Bool):=bif JA ops&&My ops then some (0,true)else g
def S_:List (Nat×Operand)->List Operand
 | [] =>[]
 |(_,x)::r=>x::S_ r
def MB:Op->List Operand
 | .build _ parts=>S_ parts.toList
 |_=>[]
def Ta (ds:List Nat):List Oper->Bool
 | [] =>false
 |o::r=>F7 ds (MB o.op) ||Ta ds r
def XI (t:TypeId):Op->Bool
 | .buildSlice t' _ _=>Nat.beq t t'
 |_=>false
def JD (t:TypeId):List Oper->List Nat
 | [] =>[]
 |o::r=>bif XI t o.op then o.dst.toList++JD t r else JD t r
def R3:Bool:=true
def Dd (t:TypeId)(ops:List Oper)(g:Option (Nat×Bool)):Option (Nat×Bool):=bif R3&&Ta (JD t ops) ops then some (0,true)else XH ops g
def XJ:SV->Bool
 | .os _=>true
 |_=>false
def osL:List SV->Bool
 | [] =>false
 |s::r=>XJ s||osL r
def osV:SV->Bool
 | .os _=>true
 | .agg l=>osL l
 |_=>false
def MC:List (Nat×SV)->Bool
 | [] =>false
 |(_,s)::r=>osV s||MC r
def bsG (ti te:TI)(n:Nat)(l:Option (List SV))(os:Bool):Option Tag->OR
 |some k=>bif os then bsU ti te n l else bsT k ti te n l
 |none=>bsU ti te n l
def R4:List Kd->Bool
 | [.f] =>true
 |_=>false
def Py:Option Tag->Option Tag
 |some k=>bif R4 (d6 k)then none else some k
 |none=>none
def bsS (ti te:TI)(n:Nat)(parts:List (Nat×SV)):OR:=
 bif Nat.beq n 0 then(bif ti.isSlice&&parts.isEmpty then .newr .e0 else .bad)
 else bsG ti te n (mA (fun i=>some (i*te.size,te.size)) (AI n te.zero) parts) (MC parts) (Py te.tag)
def one {α:Type}:List α->Bool
 | [_] =>true
 |_=>false
def De (g:Option (Nat×Bool))(nx:Nat)(te:TI):OR->OR
 | .newr (.rs k l) =>bif(te.agg||one l)&&noG g then .eff True True [(nx,.row k l)] (.os nx)else .newr (.rs k l)
 |r=>r
def MD (i:Nat):SV->OR
 | .tup l=>uA (nth l i)
 |_=>.bad
def yJ (args:List SV):SV->OR
 | .fn g first caps=>.call g (first++args++caps)
 | .os id=>.yld id args
 |_=>.bad
def aA:Nat:=140737488355328
def ME:Ob->OR
 | .row _ l=>.asm (l.length<=aA) (.i l.length)
 | .grid _ l=>.asm (l.length<=aA) (.i l.length)
 |_=>.bad
def Pz (i:Int):Ob->OR
 | .grid _ l=>.asm ((l.getD i.toNat []).length<=aA) (.i (l.getD i.toNat []).length)
 |_=>.bad
def PA (m:Option Tag):Ob->OR
 | .mp _ _ l p=>bif m.isSome&&noE p then .val (.i l.length)else .bad
 |_=>.bad
def sN (ti:TI)(h:List Ob):List SV->OR
 | [.rs _ l] =>bif ti.isSlice then .asm (l.length<=aA) (.i l.length)else .bad
 | [.v (.slice none 0 0)] =>bif ti.isSlice then .val (.i 0)else .bad
 | [.e0] =>bif ti.isSlice then .val (.i 0)else .bad
 | [.rc _ l] =>bif ti.isSlice then .asm (l.length<=aA) (.i l.length)else .bad
 | [.os id] =>bif ti.isSlice then ME (al h id)else PA ti.mkt (al h id)
 | [.gr id i] =>bif ti.isSlice then Pz i (al h id)else .bad
 | [.ls l] =>bif ti.isSlice then .val (.i (sz l))else .bad
 |_=>.bad
def ED:List SV->OR
 | [.v (.int k a),.v (.int _ b)] =>.val (.v (.int k (if b<a then b else a)))
 |_=>.bad
def EE:List SV->OR
 | [.v (.int k a),.v (.int _ b)] =>.val (.v (.int k (if a<b then b else a)))
 |_=>.bad
def MF:SV->OR
 | .v (.iface t y) =>.pan (.iface t y)
 |_=>.bad
def By (t:TypeId):SV->OR
 | .v (.int k n) =>.val (.v (.iface t (.int k n)))
 |_=>.bad
def F9 (fn:Fn)(first caps:List SV):OR:=
 match fn with
 | .func f=>.val (.fn f first caps)
 |_=>.bad
def ez:Nat:=140737488355328
def JE (a:Tag):Option Tag->Bool
 |some b=>Nat.beq (yD a) (yD b)
 |none=>false
def xK (k:Tag)(k':Tag)(l:List k'.T):Option (List k.T):=if h:k'=k then some (h▸l)else none
def Lc (k:Tag):Ob->Option (List k.T)
 | .row k' l=>xK k k' l
 |_=>none
def PB (k:Tag)(s:Nat)(lo hi:Int):Ob->Option (List k.T)
 | .row k' l=>bif Nat.beq s (ae k')then xK k k' ((l.take hi.toNat).drop lo.toNat)else none
 |_=>none
def tF (k:Tag)(h:List Ob):SV->Option (List k.T)
 | .rs k' l=>xK k k' l
 | .v (.slice none 0 0) =>some []
 | .e0=>some []
 | .os id=>Lc k (al h id)
 | .vw s id lo hi=>PB k s lo hi (al h id)
 |_=>none
def MG (k:Tag)(nx bytes:Nat)(kill:List Up)(l:List k.T):Option (List k.T)->OR
 |some m=>.eff ((l++m).length*bytes<=ez) ((l++m).length<=aA) (kill++[(nx,.row k (l++m))]) (.os nx)
 |none=>.bad
def u_ (te:TI)(nx:Nat)(kill:List Up)(h:List Ob)(src:SV):Ob->OR
 | .row k l=>bif Nat.beq te.size (ae k)&&Nat.beq (sz te.zero) te.size&&Nat.ble 1 te.bytes then MG k nx te.bytes kill l (tF k h src)else .bad
 |_=>.bad
def Bz (k:Tag)(nx bytes id2:Nat)(kill:List Up)(l:List (List k.T)):Option (List k.T)->OR
 |some m=>.eff ((l++[m]).length*bytes<=ez) ((l++[m]).length<=aA) (kill++[(id2,.dead),(nx,.grid k (l++[m]))]) (.os nx)
 |none=>.bad
def Am (nx bytes:Nat)(h:List Ob)(id2:Nat)(kill:List Up):Ob->OR
 | .grid k l=>Bz k nx bytes id2 kill l (Lc k (al h id2))
 |_=>.bad
def MH (nx bytes id2:Nat):Ob->OR
 | .row k m=>Bz k nx bytes id2 [] [] (some m)
 |_=>.bad
def va (te:TI)(nx:Nat)(h:List Ob)(src:SV):Option Tag->OR
 |some k=>u_ te nx [] h src (.row k [])
 |none=>.bad
def MI (te:TI)(id:Nat):Ob->OR
 | .row k l=>bif Nat.beq te.size (ae k)&&Nat.beq (sz te.zero) te.size&&Nat.ble 1 te.bytes then .eff ((l++l).length*te.bytes<=ez) ((l++l).length<=aA) [(id,.fz k l)] (.rs k (l++l))else .bad
 |_=>.bad
def F_ (k:Tag)(nx bytes:Nat)(l:List k.T):Option (List k.T)->OR
 |some (x::m) =>.eff ((l++x::m).length*bytes<=ez) ((l++x::m).length<=aA) [(nx,.row k (l++x::m))] (.os nx)
 |_=>.bad
def Ld (te:TI)(nx:Nat)(h:List Ob)(src:SV)(k:Tag)(l:List k.T):OR:=bif Nat.beq te.size (ae k)&&Nat.beq (sz te.zero) te.size&&Nat.ble 1 te.bytes then F_ k nx te.bytes l (tF k h src)else .bad
def nU (te:TI)(nx:Nat)(h:List Ob):List SV->OR
 | [.os id,.ls [.os id2]] =>bif Nat.beq te.size 1&&Nat.beq (sz te.zero) 1&&Nat.ble 1 te.bytes&& !(Nat.beq id id2)then Am nx te.bytes h id2 [(id,.dead)] (al h id)else .bad
 | [.v (.slice none 0 0),.ls [.os id2]] =>bif Nat.beq te.size 1&&Nat.beq (sz te.zero) 1&&Nat.ble 1 te.bytes then MH nx te.bytes id2 (al h id2)else .bad
 | [.os id,.os id2] =>bif Nat.beq id id2 then MI te id (al h id)else u_ te nx [(id,.dead)] h (.os id2) (al h id)
 | [.os id,src] =>u_ te nx [(id,.dead)] h src (al h id)
 | [.v (.slice none 0 0),src] =>va te nx h src te.tag
 | [.e0,src] =>va te nx h src te.tag
 | [.rc k l,src] =>Ld te nx h src k l
 |_=>.bad
def BA (k:Tag)(l:List k.T)(lo hi:Int):List k.T:=if hi.toNat<=lo.toNat then l else l.take lo.toNat++List.replicate (hi.toNat - lo.toNat) (fS k)++l.drop hi.toNat
def Tb (te:TI)(s id:Nat)(lo hi:Int):Ob->OR
 | .row k l=>bif Nat.beq s (ae k)&&JE k te.tag then .eff True True [(id,.row k (BA k l lo hi))] .any else .bad
 |_=>.bad
def yc (ti te:TI)(h:List Ob):List SV->OR
 | [.vw s id lo hi] =>bif ti.isSlice then Tb te s id lo hi (al h id)else .bad
 |_=>.bad
def mkT (nx:Nat)(n c:Int)(te:TI):Option Tag->OR
 |some k=>.eff (n=c/\0<=n/\n*te.bytes<=ez) (n<=aA) [(nx,.row k (List.replicate n.toNat (fS k)))] (.os nx)
 |none=>.bad
def mkS (nx:Nat)(te:TI):SV->SV->OR
 | .v (.int .i64 n),.v (.int .i64 c) =>mkT nx n c te te.tag
 |_,_=>.bad
def MJ:List SV->Bool
 | [.v (.slice none 0 0)] =>true
 |_=>false
def PC (nx:Nat)(n c:Int)(te:TI):Option Tag->OR
 |some k=>bif Nat.beq te.size 1&&MJ te.zero&&Nat.ble 1 te.bytes then .eff (n=c/\0<=n/\n*te.bytes<=ez) (n<=aA) [(nx,.grid k (List.replicate n.toNat []))] (.os nx)else .bad
 |none=>.bad
def Df (nx:Nat)(te tr:TI):SV->SV->OR
 | .v (.int .i64 n),.v (.int .i64 c) =>PC nx n c te tr.tag
 |_,_=>.bad
def bnd (d:Int):Option SV->Option Int
 |none=>some d
 |some (.v (.int _ n)) =>some n
 |_=>none
def MK (k:Tag)(l:List k.T):Option Int->Option Int->OR
 |some lo,some hi=>.chk (0<=lo/\lo<=hi/\hi<=(l.length:Int)) (.rs k ((l.take hi.toNat).drop lo.toNat))
 |_,_=>.bad
def PD (id nx:Nat)(k:Tag)(l:List k.T):Option Int->Option Int->OR
 |some lo,some hi=>.eff (0<=lo/\lo<=hi/\hi<=(l.length:Int)) True [(id,.dead),(nx,.row k ((l.take hi.toNat).drop lo.toNat))] (.os nx)
 |_,_=>.bad
def ML (esz id nx:Nat)(lo hi:Option SV):Ob->OR
 | .row k l=>bif Nat.beq esz (ae k)then PD id nx k l (bnd 0 lo) (bnd l.length hi)else .bad
 |_=>.bad
def MM (esz id n:Nat):Option Int->OR
 |some a=>.chk (0<=a/\a<=(n:Int)) (.vw esz id a n)
 |none=>.bad
def JF (esz id:Nat)(lo:Option SV):Ob->OR
 | .row k l=>bif Nat.beq esz (ae k)then MM esz id l.length (bnd 0 lo)else .bad
 |_=>.bad
def nV (ti:TI)(esz nx:Nat)(h:List Ob)(lo hi:Option SV)(vq:Bool):SV->OR
 | .rs k l=>bif ti.isSlice&&Nat.beq esz (ae k)then MK k l (bnd 0 lo) (bnd l.length hi)else .bad
 | .os id=>bif ti.isSlice then(bif vq then JF esz id lo (al h id)else ML esz id nx lo hi (al h id))else .bad
 |_=>.bad
def R5 (ti:TI):Option SV->Option SV->SV->SV->OR
 |none,some (.v (.int .i64 0)),.v (.int .i64 0),.v (.slice none 0 0) =>bif ti.isSlice then .val (.v (.slice none 0 0))else .bad
 |_,_,_,_=>.bad
def R6 (ti:TI)(k:Tag)(l:List k.T):Option SV->Option SV->SV->OR
 |none,some (.v (.int .i64 a)),.v (.int .i64 b) =>bif ti.isSlice then .chk (a=(l.length:Int)/\b=(l.length:Int)) (.rc k l)else .bad
 |_,_,_=>.bad
def BB (ti:TI)(lo hi:Option SV)(m:SV):SV->OR
 | .rs k l=>R6 ti k l lo hi m
 |x=>R5 ti lo hi m x
def BC (kk vk:Tag)(l:List (kk.T×vk.T))(ok:Bool):Option kk.T->OR
 |some x=>bif ok then .val (.tup [svT vk (bg kk vk l x),.b (Jy kk vk l x)])else .val (svT vk (bg kk vk l x))
 |none=>.bad
def kJ (a:Tag):Option Tag->Bool
 |some b=>Nat.beq (yD a) (yD b)
 |none=>false
def DK {α:Type}:Option α->Bool
 |none=>true
 |some _=>false
def Ga (ti:TI)(key:SV)(ok:Bool):Ob->OR
 | .mp kk vk l pend=>bif kJ kk ti.mkt&&kJ vk ti.mvt&&(!ok||noE pend)then BC kk vk l ok (unT kk key)else .bad
 |_=>.bad
def JG (key:SV)(ok:Bool):Option Tag->Option Tag->OR
 |some kk,some vk=>BC kk vk [] ok (unT kk key)
 |_,_=>.bad
def tL (ti:TI)(h:List Ob)(ok:Bool)(key:SV):SV->OR
 | .os id=>Ga ti key ok (al h id)
 | .rm kk vk l=>bif kJ kk ti.mkt&&kJ vk ti.mvt then BC kk vk l ok (unT kk key)else .bad
 | .v (.map none) =>JG key ok ti.mkt ti.mvt
 |_=>.bad
def Tc (id:Nat)(kk vk:Tag)(l:List (kk.T×vk.T)):Option kk.T->Option vk.T->OR
 |some x,some y=>.eff True True [(id,.mp kk vk (iH kk vk l x y) none)] .any
 |_,_=>.bad
def Td (ti:TI)(id:Nat)(key v:SV):Ob->OR
 | .mp kk vk l p=>bif kJ kk ti.mkt&&kJ vk ti.mvt&&noE p then Tc id kk vk l (unT kk key) (unT vk v)else .bad
 |_=>.bad
def AJ (ti:TI)(h:List Ob)(key v:SV):SV->OR
 | .os id=>Td ti id key v (al h id)
 |_=>.bad
def Le (id nx:Nat)(kk vk:Tag)(l:List (kk.T×vk.T)):Option kk.T->OR
 |some x=>.eff True True [(nx,.fwd none),(id,.mp kk vk l (some (nx,some x)))] (.tup [svT vk (bg kk vk l x),.os nx])
 |none=>.bad
def Lf (ti:TI)(id nx:Nat)(key:SV):Ob->OR
 | .mp kk vk l p=>bif kJ kk ti.mkt&&kJ vk ti.mvt&&noE p then Le id nx kk vk l (unT kk key)else .bad
 |_=>.bad
def xE (ti:TI)(nx:Nat)(h:List Ob)(key:SV):SV->OR
 | .os id=>Lf ti id nx key (al h id)
 |_=>.bad
def Te (id:Nat)(kk vk:Tag)(l:List (kk.T×vk.T))(x:kk.T):Option vk.T->OR
 |some y=>.eff True True [(id,.mp kk vk (iH kk vk l x y) none)] .any
 |none=>.bad
def PE (ti:TI)(id n:Nat)(v:SV):Ob->OR
 | .mp kk vk l (some (n',some x)) =>bif kJ kk ti.mkt&&kJ vk ti.mvt&&Nat.beq n' n then Te id kk vk l x (unT vk v)else .bad
 |_=>.bad
def EF (ti:TI)(h:List Ob)(v:SV):SV->SV->OR
 | .os id,.os n=>PE ti id n v (al h id)
 |_,_=>.bad
def Tf (id:Nat)(kk vk:Tag)(l:List (kk.T×vk.T)):Option kk.T->OR
 |some x=>.eff True True [(id,.mp kk vk (DI kk vk l x) none)] .any
 |none=>.bad
def Tg (ti:TI)(id:Nat)(key:SV):Ob->OR
 | .mp kk vk l p=>bif kJ kk ti.mkt&&kJ vk ti.mvt&&noE p then Tf id kk vk l (unT kk key)else .bad
 |_=>.bad
def yd (ti:TI)(h:List Ob):List SV->OR
 | [.os id,key] =>Tg ti id key (al h id)
 |_=>.bad
def mmR (nx:Nat):Option Tag->Option Tag->OR
 |some kk,some vk=>.eff True True [(nx,.mp kk vk [] none)] (.os nx)
 |_,_=>.bad
def zsO (z:List SV):OR:=.val (.tup [.agg z,.b false])
def taS (t:TypeId)(ok:Bool)(ti:TI):SV->OR
 | .v (.iface t' y) =>bif ti.iface then .bad else bif Nat.beq t' t then(bif ok then .val (.tup [.v y,.b true])else .val (.v y))else .bad
 |_=>.bad
def PG (ti:TI)(nx id:Nat):Ob->OR
 | .mp kk vk l p=>bif kJ kk ti.mkt&&kJ vk ti.mvt&&noE p then .eff True True [(nx,.mi (some id) l.length (List.range l.length) none),(id,.mp kk vk l (some (nx,none)))] (.ptr nx 0)else .bad
 |_=>.bad
def BD (ti:TI)(nx:Nat)(h:List Ob):SV->OR
 | .os id=>PG ti nx id (al h id)
 |_=>.bad
def MN:SV->OR
 | .ptr id 0=>.nxt id
 |_=>.bad
def MO (id n j:Nat):Ob->OR
 | .mp kk vk l (some (it,none)) =>bif Nat.beq it id then .chk (n=l.length/\j<n) (.tup [svT kk (l.getD j (fS kk,fS vk)).1,svT vk (l.getD j (fS kk,fS vk)).2])else .bad
 |_=>.bad
def JH (h:List Ob)(id:Nat):Ob->OR
 | .mi (some mid) n _ (some j) =>MO id n j (al h mid)
 |_=>.bad
def An (h:List Ob):SV->OR
 | .ptr id 0=>JH h id (al h id)
 |_=>.bad
def opS (cx:Cx):Op->OR
 | .move x=>.val (val cx x)
 | .assign x=>.val (val cx x)
 | .pick c a b=>Bu a b (val cx c) (lw cx.ops cx.g c true (raw cx.st.t a)) (lw cx.ops cx.g c false (raw cx.st.t b))
 | .alloc t=>aD cx.ts t fun ti=>EC cx.nx (some ti.zero)
 | .box _ x=>EC cx.nx (qh (val cx x))
 | .build t parts=>aD cx.ts t fun ti=>
  bif ti.isArr then aD cx.ts ti.elem fun te=>H6 (mA (fun i=>some (i*te.size,te.size)) ti.zero (gU cx parts.toList))
  else bif ti.agg then H6 (mA (fun i=>(nth ti.fields i).map fun f=>(f.1,f.2.1)) ti.zero (gU cx parts.toList))
  else .bad
 | .buildSlice t n parts=>aD cx.ts t fun ti=>aD cx.ts ti.elem fun te=>De (Dd t cx.ops cx.g) cx.nx te (bsS ti te n (gU cx parts.toList))
 | .load t a=>aD cx.ts t fun ti=>qZ ti cx.st.h (val cx a)
 | .store t a x=>aD cx.ts t fun ti=>rO ti.size cx.nx cx.st.h (val cx a) (val cx x)
 | .nilCheck x=>Mw (val cx x)
 | .binOp op t x y _=>Ey cx.ts op t (val cx x) (val cx y)
 | .unOp op _ x=>unS op (val cx x)
 | .convert src dst x=>aD cx.ts src fun _=>aD cx.ts dst fun ti=>F6 ti.int (val cx x)
 | .makeFunc fn first captured=>F9 fn (cA cx first.toList) (cA cx captured.toList)
 | .fieldAddr t x f=>aD cx.ts t fun ti=>match nth ti.fields f with|some (o,n,_) =>bif Nat.ble 1 n then yI o (val cx x)else .bad|none=>.bad
 | .field t x f=>aD cx.ts t fun ti=>sM (nth ti.fields f) (yF (val cx x))
 | .indexAddr t x i=>aD cx.ts t fun ti=>aD cx.ts ti.elem fun te=>hM ti te.size cx.st.h (val cx x) (val cx i)
 | .extract x i=>MD i (val cx x)
 | .panic x=>MF (val cx x)
 | .makeInterface t x=>aD cx.ts t fun ti=>bif ti.iface then .bad else By t (val cx x)
 | .makeSlice t n c=>aD cx.ts t fun ti=>aD cx.ts ti.elem fun te=>bif ti.isSlice then(bif te.isSlice then aD cx.ts te.elem fun tr=>Df cx.nx te tr (val cx n) (val cx c)else mkS cx.nx te (val cx n) (val cx c))else .bad
 | .slice t x lo hi none=>aD cx.ts t fun ti=>aD cx.ts ti.elem fun te=>nV ti te.size cx.nx cx.st.h (pa cx lo) (pa cx hi) (DK hi&&F8 cx.ops) (val cx x)
 | .slice t x lo hi (some m) =>aD cx.ts t fun ti=>aD cx.ts ti.elem fun _=>BB ti (pa cx lo) (pa cx hi) (val cx m) (val cx x)
 | .makeMap t none=>aD cx.ts t fun ti=>mmR cx.nx ti.mkt ti.mvt
 | .lookup t m k ok=>aD cx.ts t fun ti=>tL ti cx.st.h ok (val cx k) (val cx m)
 | .mapUpdate t m k v=>aD cx.ts t fun ti=>AJ ti cx.st.h (val cx k) (val cx v) (val cx m)
 | .insert t m k v=>aD cx.ts t fun ti=>AJ ti cx.st.h (val cx k) (val cx v) (val cx m)
 | .mapEntry t m k=>aD cx.ts t fun ti=>xE ti cx.nx cx.st.h (val cx k) (val cx m)
 | .entryStore t m s v=>aD cx.ts t fun ti=>EF ti cx.st.h (val cx v) (val cx m) (val cx s)
 | .range t m=>aD cx.ts t fun ti=>BD ti cx.nx cx.st.h (val cx m)
 | .next it false=>MN (val cx it)
 | .entry it=>An cx.st.h (val cx it)
 | .typeAssert x _ t ok=>aD cx.ts t fun ti=>taS t ok ti (val cx x)
 | .call ⟨.value f,args,_⟩ =>yJ (cA cx args.toList) (val cx f)
 | .call ⟨.builtin .len,args,tys⟩ =>match tys.toList with| [t] =>aD cx.ts t fun ti=>sN ti cx.st.h (cA cx args.toList) |_=>.bad
 | .call ⟨.builtin .delete,args,tys⟩ =>match tys.toList with|t::_=>aD cx.ts t fun ti=>yd ti cx.st.h (cA cx args.toList) |_=>.bad
 | .call ⟨.builtin .clear,args,tys⟩ =>match tys.toList with| [t] =>aD cx.ts t fun ti=>aD cx.ts ti.elem fun te=>yc ti te cx.st.h (cA cx args.toList) |_=>.bad
 | .call ⟨.builtin .min,args,_⟩ =>ED (cA cx args.toList)
 | .call ⟨.builtin .max,args,_⟩ =>EE (cA cx args.toList)
 | .call ⟨.builtin .append,args,tys⟩ =>match tys.toList with| [t,t2] =>aD cx.ts t fun ti=>aD cx.ts t2 fun ti2=>aD cx.ts ti.elem fun te=>bif ti.isSlice&&ti2.isSlice then nU te cx.nx cx.st.h (cA cx args.toList)else .bad|_=>.bad
 |_=>.bad
structure Fp where
 all:List Nat
 rd:List Nat
 wk:List Nat
 tc:List Nat
 wt:List Nat
def fT:SV->List Nat
 | .ptr id _=>[id]
 | .os id=>[id]
 | .rp _ id _ _=>[id]
 | .gr id _=>[id]
 | .gp _ id _ _ _=>[id]
 | .vw _ id _ _=>[id]
 |_=>[]
def EG:SV->List Nat
 | .ls [.os id] =>[id]
 |s=>fT s
def qi:List SV->List Nat
 | [] =>[]
 |s::r=>EG s++qi r
def MP:Ob->List Nat
 | .mi (some mid) _ _ _=>[mid]
 |_=>[]
def MQ (h:List Ob):SV->List Nat
 | .ptr id _=>MP (al h id)
 |_=>[]
def fpO (cx:Cx):Op->List Nat×List Nat
 | .range _ m=>(fT (val cx m),[])
 | .entry it=>(fT (val cx it)++MQ cx.st.h (val cx it),[])
 | .load _ a=>(fT (val cx a),[])
 | .store _ a x=>(fT (val cx a)++fT (val cx x),[])
 | .indexAddr _ x _=>(fT (val cx x),[])
 | .slice _ x _ _ _=>(fT (val cx x),[])
 | .lookup _ m _ ok=>bif ok then(fT (val cx m),[])else([],fT (val cx m))
 | .mapUpdate _ m _ _=>(fT (val cx m),[])
 | .insert _ m _ _=>(fT (val cx m),[])
 | .mapEntry _ m _=>(fT (val cx m),[])
 | .entryStore _ m _ _=>(fT (val cx m),[])
 | .call ⟨.builtin .len,args,_⟩ =>(qi (cA cx args.toList),[])
 | .call ⟨.builtin .append,args,_⟩ =>(qi (cA cx args.toList),[])
 | .call ⟨.builtin .delete,args,_⟩ =>(qi (cA cx args.toList),[])
 | .call ⟨.builtin .clear,args,_⟩ =>(qi (cA cx args.toList),[])
 |_=>([],[])
def eN:List Up->List Nat
 | [] =>[]
 |(id,_)::r=>id::eN r
def tM:Op->Bool
 | .mapEntry .. =>true
 |_=>false
def fpU (o:Op)(x:List Nat×List Nat)(all:List Nat)(ups:List Up):Fp:=
 bif tM o then ⟨all,x.1,x.2,[],eN ups⟩else ⟨all,x.1,x.2,eN ups,[]⟩
def Gb (as:List Nat):List Edge->Nat
 | [] =>0
 |e::r=>bif Region.binds .any e then Nat.lor (Nat.lor ((nth as e.on).getD 0) (Nat.shiftLeft 1 e.on)) (Gb as r)else Gb as r
def zM:List Oper->List Nat->List Nat
 | [],as=>as
 |o::r,as=>zM r (as++[Gb as o.after.toList])
def sO (as:List Nat)(i j:Nat):Bool:=Nat.testBit ((nth as i).getD 0) j
def AK (n:Nat):List Nat->Bool
 | [] =>false
 |m::r=>bif Nat.beq m n then true else AK n r
def tN:List Nat->List Nat->Bool
 | [],_=>false
 |a::r,l=>bif AK a l then true else tN r l
def tO (i e:Fp):Bool:=
 tN i.all e.tc||tN i.all e.wt||tN i.rd e.tc||tN i.rd e.wt||tN i.wk e.tc||tN i.tc e.tc||tN i.tc e.wt||tN i.wt e.tc||tN i.wt e.wt
def Gc (as:List Nat)(i:Nat)(x:Fp):Nat->List Fp->Bool
 |_,[] =>true
 |j,y::r=>(Nat.beq i j|| !(tO x y) ||(Nat.blt j i&&sO as i j) ||(Nat.blt i j&&sO as j i))&&Gc as i x (j+1) r
def JI (as:List Nat)(b:Nat)(all:List Fp):Nat->List Fp->Bool
 |_,[] =>true
 |i,x::r=>Gc as i x b all&&JI as b all (i+1) r
def R7 (ops:List Oper)(b:Nat)(fps:List Fp):Bool:=JI (zM ops []) b fps b fps
def BE:List Fp->Bool
 | [] =>true
 |x::r=>x.tc.isEmpty&&x.wt.isEmpty&&BE r
def sP (ops:List Oper)(b:Nat)(fps:List Fp):Prop:=bif BE fps then True else R7 ops b fps=true
def EH (as:List Nat)(c:Nat):Nat->List Oper->Bool
 |_,[] =>true
 |i,_::r=>(Nat.beq i c||(Nat.blt i c&&sO as c i) ||(Nat.blt c i&&sO as i c))&&EH as c (i+1) r
def BF (ops:List Oper)(c:Nat):Bool:=EH (zM ops []) c 0 ops
def dv (ops:List Oper)(t:List (Nat×SV)):Nat->Nat×Bool->Prop
 |0,_=>True
 |n+1,(j,want) =>match (nth ops j).bind (·.dst)with
  |some d=>match lk d t with
   | .v (.bool x) =>x=want
   | .gd j' b (.v (.bool x)) =>dv ops t n (j',b)/\x=want
   |_=>True
  |none=>True
def gC (ops:List Oper)(t:List (Nat×SV)):Nat->Nat×Bool->Prop
 |0,_=>True
 |n+1,(j,want) =>match (nth ops j).bind (·.dst)with
  |some d=>match lk d t with
   | .v (.bool x) =>¬x=want
   | .gd j' b (.v (.bool x)) =>gC ops t n (j',b)\/¬x=want
   |_=>True
  |none=>True
def vb (ops:List Oper)(t:List (Nat×SV)):Nat->Nat×Bool->Prop
 |0,_=>False
 |n+1,(j,want) =>match (nth ops j).bind (·.dst)with
  |some d=>match lk d t with
   | .v (.bool x) =>¬x=want
   | .gd j' b (.v (.bool x)) =>vb ops t n (j',b)\/¬x=want
   |_=>False
  |none=>False
def PH (szt off:Nat)(i:Int):Ob->SV
 | .row k l=>bif Nat.beq szt (ae k)then .ep (cellsOf k (l.getD i.toNat (fS k))) off else .any
 |_=>.any
def JJ (szt off:Nat)(i j:Int):Ob->SV
 | .grid k l=>bif Nat.beq szt (ae k)then .ep (cellsOf k ((l.getD i.toNat []).getD j.toNat (fS k))) off else .any
 |_=>.any
def MR (i:Int):Ob->SV
 | .grid k l=>.rs k (l.getD i.toNat [])
 |_=>.any
def frz:Ob->SV
 | .row k l=>.rs k l
 | .mp kk vk l p=>bif noE p then .rm kk vk l else .any
 | .grid k l=>FR k l
 | .fz k l=>.rs k l
 |_=>.any
def Lg (f:SV->SV)(off:Nat):Ob->SV
 | .cells l=>.ep (l.map f) off
 |_=>.any
def PI (s:Nat)(lo hi:Int):Ob->SV
 | .row k l=>bif Nat.beq s (ae k)then .rs k ((l.take hi.toNat).drop lo.toNat)else .any
 |_=>.any
def eW (h:List Ob):Nat->SV->SV
 |_,.v x=>.v x
 |_,.rs k l=>.rs k l
 |_,.rc k l=>.rs k l
 |_,.e0=>.e0
 |_,.rm k k2 l=>.rm k k2 l
 |_,.os id=>frz (al h id)
 |_,.vw s id lo hi=>PI s lo hi (al h id)
 |_,.rp s id i off=>bif Nat.beq s 0 then .any else PH s off i (al h id)
 |_,.gp s id i j off=>bif Nat.beq s 0 then .any else JJ s off i j (al h id)
 |_,.gr id i=>MR i (al h id)
 |n+1,.ptr id off=>Lg (eW h n) off (al h id)
 |n+1,.ep l off=>.ep (l.map (eW h n)) off
 |n+1,.ls l=>.ls (l.map (eW h n))
 |n+1,.agg l=>.agg (l.map (eW h n))
 |n+1,.tup l=>.tup (l.map (eW h n))
 |n+1,.fn f first caps=>.fn f (first.map (eW h n)) (caps.map (eW h n))
 |_,_=>.any
def Lh (f:SV->List Nat):Ob->List Nat
 | .cells l=>l.flatMap f
 |_=>[]
def jn (h:List Ob):Nat->SV->List Nat
 |_,.os id=>[id]
 |_,.rp _ id _ _=>[id]
 |_,.gp _ id _ _ _=>[id]
 |_,.gr id _=>[id]
 |_,.vw _ id _ _=>[id]
 |n+1,.ptr id _=>id::Lh (jn h n) (al h id)
 |n+1,.ep l _=>l.flatMap (jn h n)
 |n+1,.ls l=>l.flatMap (jn h n)
 |n+1,.agg l=>l.flatMap (jn h n)
 |n+1,.tup l=>l.flatMap (jn h n)
 |n+1,.fn _ first caps=>first.flatMap (jn h n)++caps.flatMap (jn h n)
 |_,_=>[]
def ungd:List (Nat×SV)->List (Nat×SV)
 | [] =>[]
 |(d,.gd ..)::r=>(d,.any)::ungd r
 |x::r=>x::ungd r
def b_:Nat->SV->Bool
 |_,.v _=>true
 |_,.rs _ _=>true
 |_,.rm _ _ _=>true
 |_,.e0=>true
 |_,.rc _ _=>true
 |_,.any=>true
 |n+1,.ep l _=>l.all (b_ n)
 |n+1,.ls l=>l.all (b_ n)
 |n+1,.agg l=>l.all (b_ n)
 |n+1,.tup l=>l.all (b_ n)
 |n+1,.fn _ l m=>l.all (b_ n)&&m.all (b_ n)
 |_,_=>false
def g8:Nat->SV->Bool
 |_,.v _=>true
 |_,.nw k _=>Nat.beq (rank k) 0
 |_,.nm k k2 _=>Nat.beq (rank k) 0&&Nat.beq (rank k2) 0
 |_,.ng k _=>Nat.beq (rank k) 0
 |n+1,.agg l=>l.all (g8 n)
 |n+1,.tup l=>l.all (g8 n)
 |_,_=>false
def aJ:Nat->SV->List Ob
 |_,.nw k l=>[.row k l]
 |_,.nm k k2 l=>[.mp k k2 l none]
 |_,.ng k l=>[.grid k l]
 |n+1,.agg l=>l.flatMap (aJ n)
 |n+1,.tup l=>l.flatMap (aJ n)
 |_,_=>[]
def rP (f:Nat->SV->SV)(c:SV->Nat):Nat->List SV->List SV
 |_,[] =>[]
 |b,x::r=>f b x::rP f c (b+c x) r
def ig:Nat->Nat->SV->SV
 |_,b,.nw _ _=>.os b
 |_,b,.nm _ _ _=>.os b
 |_,b,.ng _ _=>.os b
 |n+1,b,.agg l=>.agg (rP (ig n) (fun s=>(aJ n s).length) b l)
 |n+1,b,.tup l=>.tup (rP (ig n) (fun s=>(aJ n s).length) b l)
 |_,_,s=>s
def fo:Nat->SV->List Nat
 |_,.ptr id _=>[id]
 |_,.os id=>[id]
 |_,.rp _ id _ _=>[id]
 |_,.gr id _=>[id]
 |_,.gp _ id _ _ _=>[id]
 |_,.vw _ id _ _=>[id]
 |n+1,.ep l _=>l.flatMap (fo n)
 |n+1,.ls l=>l.flatMap (fo n)
 |n+1,.agg l=>l.flatMap (fo n)
 |n+1,.tup l=>l.flatMap (fo n)
 |n+1,.fn _ l m=>l.flatMap (fo n)++m.flatMap (fo n)
 |n+1,.gd _ _ s=>fo n s
 |_,_=>[]
def MS:Ob->List Nat
 | .cells l=>l.flatMap (fo 3)
 |_=>[]
def reach (h:List Ob):Nat->List Nat->List Nat->List Nat
 |0,_,acc=>acc
 |_+1,[],acc=>acc
 |n+1,id::todo,acc=>bif AK id acc then reach h n todo acc else reach h n (MS (al h id)++todo) (acc++[id])
def xF (id:Nat):List Nat->Option Nat
 | [] =>none
 |a::r=>bif Nat.beq a id then some 0 else(xF id r).map (· +1)
def yK (f:Nat->SV):Option Nat->SV
 |some k=>f k
 |none=>.any
def ren (m:Nat->Option Nat):Nat->SV->SV
 |_,.ptr id off=>yK (fun k=>.ptr k off) (m id)
 |_,.os id=>yK (fun k=>.os k) (m id)
 |_,.rp s id i off=>yK (fun k=>.rp s k i off) (m id)
 |_,.gr id i=>yK (fun k=>.gr k i) (m id)
 |_,.gp s id i j off=>yK (fun k=>.gp s k i j off) (m id)
 |_,.vw s id lo hi=>yK (fun k=>.vw s k lo hi) (m id)
 |n+1,.ep l o=>.ep (l.map (ren m n)) o
 |n+1,.ls l=>.ls (l.map (ren m n))
 |n+1,.agg l=>.agg (l.map (ren m n))
 |n+1,.tup l=>.tup (l.map (ren m n))
 |n+1,.fn f l l2=>.fn f (l.map (ren m n)) (l2.map (ren m n))
 |_,.any=>.any
 |_,.v x=>.v x
 |_,.e0=>.e0
 |_,.rc k l=>.rc k l
 |_,.rs k l=>.rs k l
 |_,.rm k k2 l=>.rm k k2 l
 |_,_=>.any
def H8 (kk vk:Tag)(l:List (kk.T×vk.T)):Option kk.T->Option Nat->Ob
 |p,some k=>.mp kk vk l (some (k,p))
 |some _,none=>.fwd none
 |none,none=>.mp kk vk l none
def ve (m:Nat->Option Nat):Ob->Ob
 | .cells l=>.cells (l.map (ren m 3))
 | .mi mid n left cur=>.mi (mid.bind m) n left cur
 | .fwd n=>.fwd (n.bind m)
 | .mp kk vk l (some (i,p)) =>H8 kk vk l p (m i)
 |o=>o
def inN (ids:List Nat)(i:Nat):Option Nat:=xF i ids
def su (h:List Ob)(ids:List Nat):List Ob:=ids.map fun id=>ve (inN ids) (al h id)
def sb (ids:List Nat)(b:Nat)(k:Nat):Option Nat:=match nth ids k with|some id=>some id|none=>some (b+(k - ids.length))
def kM (ids:List Nat)(b:Nat)(k:Nat):Nat:=match nth ids k with|some id=>id|none=>b+(k - ids.length)
def nM (ids:List Nat)(b:Nat)(h:List Ob):Nat->List Ob->List Ob
 |_,[] =>h
 |k,o::r=>nM ids b (aW h (kM ids b k) (ve (sb ids b) o)) (k+1) r
def H9 (ids:List Nat)(d:Option Nat)(st:St)(K:St->Prop)(Z:Value->St->Prop):Rs->Prop
 | .ret s h=>K (St.put ⟨st.t,nM ids st.h.length st.h 0 h⟩ d (ren (sb ids st.h.length) 3 s))
 | .pan x h=>Z x ⟨ungd st.t,nM ids st.h.length st.h 0 h⟩
def Li (ids:List Nat)(g:Nat×Bool)(d:Option Nat)(st:St)(K:St->Prop)(Z:Value->St->Prop):Rs->Prop
 | .ret s h=>K (St.put ⟨st.t,nM ids st.h.length st.h 0 h⟩ d (.gd g.1 g.2 (ren (sb ids st.h.length) 3 s)))
 | .pan x h=>Z x ⟨ungd st.t,nM ids st.h.length st.h 0 h⟩
def yL (ids:List Nat)(d:Option Nat)(st:St)(K:St->Prop)(Z:Value->St->Prop):Option HCon->Prop
 |some c=>c.pre/\∀ r,c.post r->H9 ids d st K Z (c.res r)
 |none=>False
def ye (ids:List Nat)(ops:List Oper)(g:Nat×Bool)(d:Option Nat)(st:St)(K:St->Prop)(Z:Value->St->Prop):Option HCon->Prop
 |some c=>(dv ops st.t ops.length g->c.pre/\∀ r,c.post r->Li ids g d st K Z (c.res r))/\(gC ops st.t ops.length g->K (st.put d (.gd g.1 g.2 .any)))
 |none=>vb ops st.t ops.length g/\K (st.put d (.gd g.1 g.2 .any))
def wq (np:Bool)(ids:List Nat)(d:Option Nat)(st:St)(K:St->Prop)(Z:Value->St->Prop)(c:Option HCon):Option Con->Prop
 |some (.det p s) =>bif np||g8 3 s then(p/\K (St.put ⟨st.t,st.h++aJ 3 s⟩ d (ig 3 st.h.length s)))else yL ids d st K Z c
 |some (.rel _ pre post out) =>pre/\(bif np then ∀ r,post r->K (St.put ⟨st.t,st.h++aJ 3 (out r)⟩ d (ig 3 st.h.length (out r)))else False)
 |some (.may ok s x) =>bif np||g8 3 s then(ok=true->K (St.put ⟨st.t,st.h++aJ 3 s⟩ d (ig 3 st.h.length s)))/\(ok=false->Z x ⟨ungd st.t,st.h⟩)else False
 |none=>yL ids d st K Z c
def BG (np:Bool)(ids:List Nat)(ops:List Oper)(g:Nat×Bool)(d:Option Nat)(st:St)(K:St->Prop)(Z:Value->St->Prop)(c:Option HCon):Option Con->Prop
 |some (.det p s) =>(dv ops st.t ops.length g->p)/\(bif(np||g8 3 s)&&(aJ 3 s).isEmpty then K (st.put d (.gd g.1 g.2 s))else False)
 |none=>ye ids ops g d st K Z c
 |_=>False
def H_ (id:Nat)(d:Option Nat)(st:St)(K:St->Prop):Option YCon->Prop
 |some c=>c.pre/\∀ r,c.post r->K (St.put ⟨st.t,aW st.h id (.ab (c.res r).2)⟩ d (.b (c.res r).1))
 |none=>False
def Gd (id:Nat)(ops:List Oper)(g:Nat×Bool)(d:Option Nat)(st:St)(K:St->Prop):Option YCon->Prop
 |some c=>(dv ops st.t ops.length g->c.pre/\∀ r,c.post r->K (St.put ⟨st.t,aW st.h id (.ab (c.res r).2)⟩ d (.gd g.1 g.2 (.b (c.res r).1))))/\(gC ops st.t ops.length g->K (st.put d (.gd g.1 g.2 .any)))
 |none=>False
def EI (G:Cons)(args:List SV):Ob->Option YCon
 | .ab r=>G.y args r
 |_=>none
def MT (id mid n:Nat)(left:List Nat)(d:Option Nat)(st:St)(next:St->Prop):Ob->Prop
 | .mp kk vk l (some (it,none)) =>(it=id/\n=l.length)/\(left=[]->next (st.put d (.tup [.v (.bool false)])))/\
   ∀ j,j∈left->next (St.put ⟨st.t,aW st.h id (.mi (some mid) n (left.erase j) (some j))⟩ d (.tup [.v (.bool true),svT kk (l.getD j (fS kk,fS vk)).1,svT vk (l.getD j (fS kk,fS vk)).2]))
 |_=>False
def PJ (id:Nat)(d:Option Nat)(st:St)(next:St->Prop):Ob->Prop
 | .mi (some mid) n left _=>MT id mid n left d st next (al st.h mid)
 |_=>False
def mB (G:Cons)(d:Option Nat)(st:St)(next:St->Prop)(Z:Value->St->Prop):OR->Prop
 | .val s=>next (st.put d s)
 | .chk c s=>c/\next (st.put d s)
 | .asm c s=>c->next (st.put d s)
 | .newr s=>next (st.put d s)
 | .eff c a ups s=>c/\(a->next (St.put ⟨st.t,aS st.h ups⟩ d s))
 | .call f args=>wq (args.all (b_ 3)) (reach st.h 64 (args.flatMap (fo 3)) []) d st next Z (G.o f (args.map (ren (inN (reach st.h 64 (args.flatMap (fo 3)) [])) 6)) (su st.h (reach st.h 64 (args.flatMap (fo 3)) []))) (G.p f (args.map (eW st.h 6)))
 | .yld id args=>bif args.all (b_ 3)then H_ id d st next (EI G args (al st.h id))else False
 | .nxt id=>PJ id d st next (al st.h id)
 | .amb p=>∀ b,p b->next (st.put d (.v (.bool b)))
 | .pan x=>Z x ⟨ungd st.t,st.h⟩
 | .bad=>False
def stepG (G:Cons)(ops:List Oper)(g:Nat×Bool)(d:Option Nat)(st:St)(next:St->Prop)(Z:Value->St->Prop):OR->Prop
 | .val s=>next (st.put d (.gd g.1 g.2 s))
 | .chk c s=>(dv ops st.t ops.length g->c)/\next (st.put d (.gd g.1 g.2 s))
 | .asm _ s=>next (st.put d (.gd g.1 g.2 s))
 | .newr s=>next (st.put d (.gd g.1 g.2 s))
 | .eff c a ups s=>(dv ops st.t ops.length g->c/\(a->next (St.put ⟨st.t,aS st.h ups⟩ d (.gd g.1 g.2 s))))/\(gC ops st.t ops.length g->next (st.put d (.gd g.1 g.2 .any)))
 | .call f args=>BG (args.all (b_ 3)) (reach st.h 64 (args.flatMap (fo 3)) []) ops g d st next Z (G.o f (args.map (ren (inN (reach st.h 64 (args.flatMap (fo 3)) [])) 6)) (su st.h (reach st.h 64 (args.flatMap (fo 3)) []))) (G.p f (args.map (eW st.h 6)))
 | .yld id args=>bif args.all (b_ 3)then Gd id ops g d st next (EI G args (al st.h id))else False
 | .bad=>vb ops st.t ops.length g/\next (st.put d (.gd g.1 g.2 .any))
 | .nxt _=>False
 | .amb _=>False
 | .pan _=>False
def jo (ts:Tis)(G:Cons)(ops:List Oper):List Oper->St->(St->Prop)->(Value->St->Prop)->Prop
 | [],st,K,_=>K st
 |o::rest,st,K,Z=>match o.guard with
  |none=>mB G o.dst st (fun st'=>jo ts G ops rest st' K Z) Z (opS ⟨ts,ops,none,st,st.h.length⟩ o.op)
  |some g=>stepG G ops g o.dst st (fun st'=>jo ts G ops rest st' K Z) Z (opS ⟨ts,ops,some g,st,st.h.length⟩ o.op)
structure Dr where
 c:Prop
 a:Prop
 s:SV
 ups:List Up
 all:List Nat
def drR (np:Bool)(rd:List Nat)(nx:Nat)(p:Prop)(s:SV):List Ob->Option Dr
 | [] =>bif np||g8 3 s then some ⟨p,True,s,[],rd⟩else none
 | [ob] =>bif np||g8 3 s then some ⟨p,True,ig 3 nx s,[(nx,ob)],rd⟩else none
 |_=>none
def drC (np:Bool)(rd:List Nat)(nx:Nat):Option Con->Option Dr
 |some (.det p s) =>drR np rd nx p s (aJ 3 s)
 |_=>none
def jX (G:Cons)(h:List Ob)(nx:Nat):OR->Option Dr
 | .val s=>some ⟨True,True,s,[],[]⟩
 | .chk c s=>some ⟨c,True,s,[],[]⟩
 | .asm c s=>some ⟨True,c,s,[],[]⟩
 | .newr s=>some ⟨True,True,s,[],[]⟩
 | .eff c a ups s=>some ⟨c,a,s,ups,[]⟩
 | .call f args=>drC (args.all (b_ 3)) (args.flatMap (jn h 6)) nx (G.p f (args.map (eW h 6)))
 | .bad=>some ⟨False,True,.any,[],[]⟩
 |_=>none
def drN (d:Option Nat)(st:St)(next:List Nat->List Up->St->Prop)(r:Dr):Prop:=r.c/\(r.a->next r.all r.ups (St.put ⟨st.t,aS st.h r.ups⟩ d r.s))
def drG (ops:List Oper)(g:Nat×Bool)(d:Option Nat)(st:St)(next:List Nat->List Up->St->Prop)(r:Dr):Prop:=
 bif r.ups.isEmpty then(dv ops st.t ops.length g->r.c)/\next r.all [] (st.put d (.gd g.1 g.2 r.s))
 else ¬ (dv ops st.t ops.length g/\gC ops st.t ops.length g)/\(dv ops st.t ops.length g->r.c/\(r.a->next r.all r.ups (St.put ⟨st.t,aS st.h r.ups⟩ d (.gd g.1 g.2 r.s))))/\(gC ops st.t ops.length g->next r.all [] (st.put d (.gd g.1 g.2 r.s)))
def yf (d:Option Nat)(st:St)(next:List Nat->List Up->St->Prop)(cutp:Prop):Option Dr->Prop
 |some r=>drN d st next r
 |none=>cutp
def wr (ops:List Oper)(g:Nat×Bool)(d:Option Nat)(st:St)(next:List Nat->List Up->St->Prop)(cutp:Prop):Option Dr->Prop
 |some r=>drG ops g d st next r
 |none=>cutp
def j7 (ts:Tis)(G:Cons)(ops:List Oper)(K:St->Prop)(Z:Value->St->Prop):List Oper->(i b:Nat)->List Fp->St->Prop
 | [],_,b,fps,st=>sP ops b fps/\K st
 |o::rest,i,b,fps,st=>match o.guard with
  |none=>yf o.dst st (fun all ups st'=>j7 ts G ops K Z rest (i+1) b (fps++[fpU o.op (fpO ⟨ts,ops,none,st,st.h.length⟩ o.op) all ups]) st')
    (sP ops b fps/\BF ops i=true/\mB G o.dst st (fun st'=>j7 ts G ops K Z rest (i+1) (i+1) [] st') Z (opS ⟨ts,ops,none,st,st.h.length⟩ o.op))
    (jX G st.h st.h.length (opS ⟨ts,ops,none,st,st.h.length⟩ o.op))
  |some g=>wr ops g o.dst st (fun all ups st'=>j7 ts G ops K Z rest (i+1) b (fps++[fpU o.op (fpO ⟨ts,ops,some g,st,st.h.length⟩ o.op) all ups]) st')
    (sP ops b fps/\BF ops i=true/\stepG G ops g o.dst st (fun st'=>j7 ts G ops K Z rest (i+1) (i+1) [] st') Z (opS ⟨ts,ops,some g,st,st.h.length⟩ o.op))
    (jX G st.h st.h.length (opS ⟨ts,ops,some g,st,st.h.length⟩ o.op))
def Th (id:Nat):Ob->SV
 | .fwd (some n) =>.os n
 |_=>.os id
def MU (h:List Ob):SV->SV
 | .os id=>Th id (al h id)
 |s=>s
def Ia (h:List Ob):List (Nat×SV)->List (Nat×SV)
 | [] =>[]
 |(d,s)::r=>(d,MU h s)::Ia h r
def JK:Ob->Bool
 | .fwd (some _) =>true
 |_=>false
def lT:List Ob->Bool
 | [] =>false
 |o::r=>JK o||lT r
def Ti:Ob->Ob
 | .fwd _=>.dead
 |o=>o
def xL:List Ob->List Ob
 | [] =>[]
 |o::r=>Ti o::xL r
def cleanF (st:St):St:=bif lT st.h then ⟨Ia st.h st.t,xL st.h⟩else st
def wu (ops:List Oper)(st:St):St:=cleanF (bif ops.any (·.guard.isSome)then ⟨ungd st.t,st.h⟩else st)
inductive Ex where
 |normal
 |exit (id:Nat)
 |ret
 |pan (x:Value)
def Ex.then (K:St->Prop)(Q:Ex->St->Prop):Ex->St->Prop
 | .normal,st=>K st
 |e,st=>Q e st
def Ex.block (id:Nat)(Q:Ex->St->Prop):Ex->St->Prop
 | .exit j,st=>bif Nat.beq j id then Q .normal st else Q (.exit j) st
 |e,st=>Q e st
def xM (x y:Prop):SV->Prop
 | .v (.bool b) =>(b=true->x)/\(b=false->y)
 |_=>False
structure LCon where
 α:Type
 pre:Prop
 post:α->Prop
 ex:α->Ex
 out:α->St
abbrev tP:=Nat->St->Option LCon
def sQ (Q:Ex->St->Prop):Option LCon->Prop
 |some c=>c.pre/\∀ r,c.post r->Q (c.ex r) (c.out r)
 |none=>False
def MV:Operand->Nat
 | .tmp n=>n+1000000
 |_=>0
def subJ (t:List (Nat×SV)):List (Nat×SV)->Prop
 | [] =>True
 |(n,s)::r=>lk n t=s/\subJ t r
def inJ (d:St):Ex->St->Prop
 | .normal,st=>st.h=d.h/\subJ st.t d.t
 |_,_=>False
def MW (x y:(Ex->St->Prop)->Prop)(Q:Ex->St->Prop)(s:SV)(c:LCon):Prop:=
 xM (x fun e st=>∃ r,c.post r/\inJ (c.out r) e st) (y fun e st=>∃ r,c.post r/\inJ (c.out r) e st) s/\∀ r,c.post r->Q .normal (c.out r)
def BH (x y:(Ex->St->Prop)->Prop)(Q:Ex->St->Prop)(s:SV):Option LCon->Prop
 |none=>xM (x Q) (y Q) s
 |some c=>MW x y Q s c
def JC (d:St):LCon:=⟨Unit,True,fun _=>True,fun _=>.normal,fun _=>d⟩
def XK (c:LCon)(Q:Ex->St->Prop):Ex->St->Prop
 | .normal,st=>∃ r,c.post r/\inJ (c.out r) .normal st
 |e,st=>Q e st
def inC (d:St)(Q:Ex->St->Prop):Ex->St->Prop
 | .normal,st=>inJ d .normal st
 |e,st=>Q e st
def cutL (x:(Ex->St->Prop)->Prop)(Q:Ex->St->Prop)(c:LCon):Prop:=x (XK c Q)/\∀ r,c.post r->Q .normal (c.out r)
def BI (x:(Ex->St->Prop)->Prop)(Q:Ex->St->Prop):Option LCon->Prop
 |none=>x Q
 |some c=>cutL x Q c
def Ao (ts:Tis)(G:Cons)(ops:Array Oper)(d:Bool)(st:St)(Q:Ex->St->Prop):Prop:=
 bif d then j7 ts G ops.toList (fun st'=>Q .normal (wu ops.toList st')) (fun x st'=>Q (.pan x) st') ops.toList 0 0 [] st
   else jo ts G ops.toList ops.toList st (fun st'=>Q .normal (wu ops.toList st')) (fun x st'=>Q (.pan x) st')
def exec (ts:Tis)(G:Cons)(L:tP):Code->St->(Ex->St->Prop)->Prop
 | .skip,st,Q=>Q .normal st
 | .region id ops d,st,Q=>BI (Ao ts G ops d st) Q (L (id+2000000) st)
 | .seq a b,st,Q=>exec ts G L a st (Ex.then (fun st'=>exec ts G L b st' Q) Q)
 | .cond c x y,st,Q=>BH (exec ts G L x st) (exec ts G L y st) Q (raw st.t c) (L (MV c) st)
 | .block id (.loop _),st,Q=>sQ Q (L id st)
 | .block id (.rangeFunc ..),st,Q=>sQ Q (L id st)
 | .block id c,st,Q=>exec ts G L c st (Ex.block id Q)
 | .exit id,st,Q=>Q (.exit id) st
 | .ret,st,Q=>Q .ret st
 | .scope c,st,Q=>exec ts G L c st Q
 | .label _,st,Q=>Q .normal st
 |_,_,_=>False
def PK:OR->Option SV
 | .val s=>some s
 |_=>none
def Lj (ts:Tis)(st:St):ResultVar->Option SV
 | .tmp n=>some (lk n st.t)
 | .cell q t=>PK (aD ts t fun ti=>qZ ti st.h (lk q st.t))
def Ge:Option SV->Option (List SV)->Option (List SV)
 |some s,some l=>some (s::l)
 |_,_=>none
def j8 (ts:Tis)(st:St):List ResultVar->Option (List SV)
 | [] =>some []
 |x::r=>Ge (Lj ts st x) (j8 ts st r)
def lz:Option (List SV)->Option SV
 |some [s] =>some s
 |some l=>some (.tup l)
 |none=>none
def XL (h:List Ob):Option SV->Option SV
 |some s=>some (eW h 4 s)
 |none=>none
def wv (rs:List ResultVar)(ts:Tis)(st:St):Option SV:=XL st.h (lz (j8 ts st rs))
def ww:Ob->SV
 | .row k l=>.nw k l
 | .mp k k2 l none=>.nm k k2 l
 | .grid k l=>.ng k l
 |_=>.any
def xN (h:List Ob):Nat->SV->SV
 |_,.os id=>ww (al h id)
 |n+1,.agg l=>.agg (l.map (xN h n))
 |n+1,.tup l=>.tup (l.map (xN h n))
 |_,.v x=>.v x
 |_,.rs k l=>.rs k l
 |_,.rm k k2 l=>.rm k k2 l
 |_,.e0=>.e0
 |n,s=>bif b_ n s then s else .any
def vg:Nat->SV->List Nat
 |_,.os id=>[id]
 |n+1,.agg l=>l.flatMap (vg n)
 |n+1,.tup l=>l.flatMap (vg n)
 |_,_=>[]
def uniq:List Nat->Bool
 | [] =>true
 |a::r=>!(AK a r)&&uniq r
def Ap (h:List Ob)(s:SV):Option SV:=bif uniq (vg 3 s)&&(vg 3 s).all (fun i=>Nat.blt i h.length)then some (xN h 3 s)else none
def R8 (h:List Ob):Option SV->Option SV
 |some s=>Ap h s
 |none=>none
def Lk (rs:List ResultVar)(ts:Tis)(st:St):Option SV:=R8 st.h (lz (j8 ts st rs))
def yg (m:Bool)(rs:List ResultVar)(ts:Tis)(st:St):Option SV:=bif m then Lk rs ts st else wv rs ts st
def A8 (ops:List Oper)(i:Nat)(o:Oper):Bool:=
 match o.guard with
 |none=>true
 |some (j,_) =>Nat.blt j i&&(match (nth ops j).bind (·.dst)with
  |some d=>(List.range ops.length).all fun k=>Nat.beq k j||(match (nth ops k).bind (·.dst)with|some e=>!(Nat.beq d e) |none=>true)
  |none=>false)
def MX (N:Nat)(ops:List Oper):Bool:=
 (List.range ops.length).all fun i=>match nth ops i with
  |some o=>(match o.dst with|some d=>Nat.blt d N|none=>true)&&A8 ops i o
  |none=>true
def ql (o:Oper)(k:Nat):Bool:=o.after.toList.any fun e=>Nat.beq e.on k&&Region.binds .any e
def Ib (ops:Array Oper):Bool:=
 (List.range ops.size).all fun i=>match nth ops.toList i with
  |some o=>
   (o.after.toList.all fun e=>!(Region.binds .any e) ||Nat.blt e.on i)&&
   (List.range ops.size).all fun k=>match nth ops.toList k with
    |some q=>match q.dst with
     |some d=>(Nat.beq k i|| !(o.dst==some d))&&(!((o.looksAt ops).contains d) ||Nat.beq k i||(Nat.blt k i&&ql o k) ||(Nat.blt i k&&ql q i))
     |none=>true
    |none=>true
  |none=>true
def bQ (N:Nat):Code->Bool
 | .region _ ops d=>MX N ops.toList&&(!d||Ib ops)
 | .seq a b=>bQ N a&&bQ N b
 | .cond _ a b=>bQ N a&&bQ N b
 | .block _ c=>bQ N c
 | .loop c=>bQ N c
 | .scope c=>bQ N c
 | .rangeFunc _ _ a b=>bQ N a&&bQ N b
 |_=>true
def nN:Nat->Nat->SV->Bool
 |_,_,.v _=>true
 |_,_,.rs _ _=>true
 |_,_,.rm _ _ _=>true
 |_,_,.any=>true
 |_,_,.e0=>true
 |_,_,.rc _ _=>true
 |_,n,.ptr id _=>Nat.blt id n
 |_,n,.os id=>Nat.blt id n
 |_,n,.rp _ id _ _=>Nat.blt id n
 |_,n,.gr id _=>Nat.blt id n
 |_,n,.gp _ id _ _ _=>Nat.blt id n
 |_,n,.vw _ id _ _=>Nat.blt id n
 |f+1,n,.ep l _=>l.all (nN f n)
 |f+1,n,.ls l=>l.all (nN f n)
 |f+1,n,.agg l=>l.all (nN f n)
 |f+1,n,.tup l=>l.all (nN f n)
 |f+1,n,.fn _ l m=>l.all (nN f n)&&m.all (nN f n)
 |_,_,_=>false
def Ll (m:Nat->Option Nat)(n:Nat)(t:List (Nat×SV)):List (Nat×SV)->Prop
 | [] =>True
 |(i,s)::r=>(lk i t=ren m 5 s/\nN 5 n s=true)/\Ll m n t r
def co:Ob->Bool
 | .dead=>true
 |_=>false
def vQ (n:Nat):Ob->Bool
 | .cells l=>l.all (nN 3 n)
 | .mi (some i) _ _ _=>Nat.blt i n
 | .fwd (some i) =>Nat.blt i n
 | .mp _ _ _ (some (i,_)) =>Nat.blt i n
 |_=>true
def unp {κ:Type}:Option (Nat×Option κ)->Option (Nat×Option κ)
 |some (_,none) =>none
 |p=>p
def Gf:SV->Bool
 | .any=>true
 |_=>false
def wkL:List SV->List SV->List SV
 |a::r,x::s=>(bif Gf a then .any else x)::wkL r s
 |_,s=>s
def BJ:Ob->Ob->Ob
 | .mp _ _ _ none,.mp kk vk l p=>.mp kk vk l (unp p)
 | .cells a,.cells l=>.cells (wkL a l)
 |_,o=>o
def EJ (m:Nat->Option Nat)(n:Nat)(h:List Ob)(j:Nat)(o:Ob):Prop:=bif co o then True else BJ o (al h j)=ve m o/\vQ n o=true
def Dg (m:Nat->Option Nat)(n:Nat)(h:List Ob):List Nat->List Ob->Prop
 | [],[] =>True
 |j::js,o::r=>EJ m n h j o/\Dg m n h js r
 |_,_=>False
def ny:List Nat->List Ob->List Nat
 |j::js,o::r=>bif co o then ny js r else j::ny js r
 |_,_=>[]
def yh:Nat->List Nat->Nat->Bool
 |_,[],_=>true
 |i,j::js,n=>(Nat.beq i j||Nat.ble n i)&&yh (i+1) js n
def AL (js:List Nat)(i:Nat):Option Nat:=nth js i
def Sub (js:List Nat)(n0:Nat)(st st2:St):Prop:=
 (uniq (ny js st2.h)=true/\yh 0 js n0=true/\js.all (fun j=>Nat.blt j st.h.length)=true)/\Ll (AL js) st2.h.length st.t st2.t/\Dg (AL js) st2.h.length st.h js st2.h
def sR {σ:Type}(D:σ->St)(I:σ->Prop)(m:σ->Nat)(n0:Nat)(x:σ)(id:Nat)(Q:Ex->St->Prop):Ex->St->Prop
 | .normal,st=>∃ y js,I y/\m y<m x/\n0<=(D y).h.length/\Sub js n0 st (D y)
 | .exit j,st=>bif Nat.beq j id then Q .normal st else Q (.exit j) st
 | .ret,st=>Q .ret st
 | .pan x,st=>Q (.pan x) st
def mC:Nat->List SV->List (Nat×SV)
 |_,[] =>[]
 |n,s::r=>(n,s)::mC (n+1) r
def er (post:SV->Prop):Option SV->Prop
 |some s=>post s
 |none=>False
def Gg (m:Bool)(rs:List ResultVar)(ts:Tis)(post:SV->Prop)(pp:Value->Prop):Ex->St->Prop
 | .exit _,_=>False
 | .normal,st=>er post (yg m rs ts st)
 | .ret,st=>er post (yg m rs ts st)
 | .pan x,_=>pp x
def yM (n0:Nat)(C:HCon):Option SV->List Ob->Prop
 |some s,h=>∃ r s' h' js,C.post r/\C.res r=.ret s' h'/\n0<=h'.length/\Sub js n0 ⟨[(0,s)],h⟩ ⟨[(0,s')],h'⟩
 |none,_=>False
def Gh (n0:Nat)(rs:List ResultVar)(ts:Tis)(C:HCon):Ex->St->Prop
 | .exit _,_=>False
 | .normal,st=>yM n0 C (lz (j8 ts st rs)) st.h
 | .ret,st=>yM n0 C (lz (j8 ts st rs)) st.h
 | .pan x,st=>∃ r h' js,C.post r/\C.res r=.pan x h'/\n0<=h'.length/\Sub js n0 ⟨[],st.h⟩ ⟨[],h'⟩
structure Hd where
 p:Option Nat:=none
 v:Value:=undef
 vs:List Value:=[]
 bs:List Nat:=[]
abbrev Own:=Nat->Option Hd
def bM (F:Nat->Prop)(own:Own)(b:Nat):Prop:=F b\/∃ id hd,own id=some hd/\b∈hd.bs
def ct:Own:=fun _=>none
def Hd.like (a b:Hd):Prop:=b.p=a.p/\b.v=a.v/\b.vs=a.vs
theorem Hd.like.refl (a:Hd):a.like a:=⟨rfl,rfl,rfl⟩
theorem Hd.like.trans {a b c:Hd}(h:a.like b)(h':b.like c):a.like c:=⟨h'.1.trans h.1,h'.2.1.trans h.2.1,h'.2.2.trans h.2.2⟩
def q_:Value->Bool
 | .agg _=>false
 | .tuple _=>false
 |_=>true
theorem BK {v:Value}(h:q_ v=true):v.cells= #[v]:=by cases v <;>first|rfl|simp[q_]at h
theorem nz {v:Value}(h:q_ v=true):v.oneCell'=true:=by cases v <;>first|rfl|simp[q_]at h
def Tj (x:Value)(sz:Nat)(lo hi:Int)(a:Option Addr):Prop:=hi.toNat<=lo.toNat\/∃ b o n cap,x=.slice (some ⟨b,o,none⟩) n cap/\hi.toNat<=n/\a=some ⟨b,o+lo.toNat*sz,none⟩
inductive Rel (F:Nat->Prop)(own:Own)(w:World):SV->Value->Prop where
 |any (v:Value):Rel F own w .any v
 |v (x:Value):Rel F own w (.v x) x
 |ptr {id off b:Nat} {hd:Hd}:own id=some hd->hd.p=some b->Rel F own w (.ptr id off) (.pointer (some ⟨b,off,none⟩))
 |os {id:Nat} {hd:Hd}:own id=some hd->q_ hd.v=true->Rel F own w (.os id) hd.v
 |e0 {a:Option Addr}:Rel F own w .e0 (.slice a 0 0)
 |rc {k:Tag} {l:List k.T} {a:Option Addr}:Rel F own w (.rs k l) (.slice a l.length l.length)->Rel F own w (.rc k l) (.slice a l.length l.length)
 |rp {sz id off n cap b o:Nat} {i:Int} {hd:Hd}:own id=some hd->hd.v=.slice (some ⟨b,o,none⟩) n cap->i.toNat<n->Rel F own w (.rp sz id i off) (.pointer (some ⟨b,o+i.toNat*sz+off,none⟩))
 |gr {id:Nat} {i:Int} {v:Value} {hd:Hd}:own id=some hd->hd.vs[i.toNat]? =some v->q_ v=true->Rel F own w (.gr id i) v
 |gp {sz id off n cap b o:Nat} {i j:Int} {hd:Hd}:own id=some hd->hd.vs[i.toNat]? =some (.slice (some ⟨b,o,none⟩) n cap)->j.toNat<n->Rel F own w (.gp sz id i j off) (.pointer (some ⟨b,o+j.toNat*sz+off,none⟩))
 |vw {sz id cap:Nat} {lo hi:Int} {hd:Hd} {a:Option Addr}:own id=some hd->Tj hd.v sz lo hi a->hi.toNat - lo.toNat<=cap->Rel F own w (.vw sz id lo hi) (.slice a (hi.toNat - lo.toNat) cap)
 |ep {cells:List SV} {off b o:Nat} (c:Nat->Value):
   (∀ j s,cells[j]? =some s->¬bM F own b/\w.cell? ⟨b,o+j,none⟩=some (c j))->(∀ j s,cells[j]? =some s->Rel F own w s (c j))->
   Rel F own w (.ep cells off) (.pointer (some ⟨b,o+off,none⟩))
 |rs {k:Tag} {l:List k.T} {b o cap:Nat} (c:Nat->Nat->Value):l.length<=cap->l.length<=aA->
   (∀ (i:Nat) (x:k.T),l[i]? =some x->∀ (j:Nat) (s:SV),(cellsOf k x)[j]? =some s->¬bM F own b/\w.cell? ⟨b,o+i*ae k+j,none⟩=some (c i j))->
   (∀ (i:Nat) (x:k.T),l[i]? =some x->∀ (j:Nat) (s:SV),(cellsOf k x)[j]? =some s->Rel F own w s (c i j))->
   Rel F own w (.rs k l) (.slice (some ⟨b,o,none⟩) l.length cap)
 |rs0 {k:Tag} {a:Option Addr} {cap:Nat}:Rel F own w (.rs k []) (.slice a 0 cap)
 |ls {l:List SV} {b o cap:Nat} (c:Nat->Value):l.length<=cap->
   (∀ j s,l[j]? =some s->¬bM F own b/\w.cell? ⟨b,o+j,none⟩=some (c j))->(∀ j s,l[j]? =some s->Rel F own w s (c j))->
   Rel F own w (.ls l) (.slice (some ⟨b,o,none⟩) l.length cap)
 |rm {kk vk:Tag} {l:List (kk.T×vk.T)} {b:Nat} (ck cv:Nat->Value) (es:Array MapEntry) (clock:Nat):¬bM F own b->w.heap[b]? =some (.map es clock)->es.size=l.length->
   (∀ (i:Nat) (x:kk.T×vk.T),l[i]? =some x->∃ n,es[i]? =some ⟨ck i,cv i,n⟩)->
   (∀ (i:Nat) (x:kk.T×vk.T),l[i]? =some x->Rel F own w (svT kk x.1) (ck i))->(∀ (i:Nat) (x:kk.T×vk.T),l[i]? =some x->Rel F own w (svT vk x.2) (cv i))->
   Rel F own w (.rm kk vk l) (.map (some b))
 |rm0 {kk vk:Tag}:Rel F own w (.rm kk vk []) (.map none)
 |agg {l:List SV} {vs:Array Value}:vs.size=l.length->(∀ (j:Nat) (s:SV),l[j]? =some s->Rel F own w s (vs.getD j undef))->Rel F own w (.agg l) (.agg vs)
 |tup {l:List SV} {vs:Array Value}:vs.size=l.length->(∀ (j:Nat) (s:SV),l[j]? =some s->Rel F own w s (vs.getD j undef))->Rel F own w (.tup l) (.tuple vs)
 |fn {f:FuncId} {first caps:List SV} {us vs:Array Value}:us.size=first.length->vs.size=caps.length->(∀ (j:Nat) (s:SV),first[j]? =some s->Rel F own w s (us.getD j undef))->
   (∀ (j:Nat) (s:SV),caps[j]? =some s->Rel F own w s (vs.getD j undef))->Rel F own w (.fn f first caps) (.func (.func f) us vs)
structure Goes (F:Nat->Prop)(own:Own)(w:World)(own':Own)(w':World):Prop where
 ids:∀ (id:Nat) (hd:Hd),own id=some hd->∃ hd',own' id=some hd'/\hd.like hd'
 keep:∀ b,b<w.heap.size->¬bM F own b->¬bM F own' b/\w'.heap[b]? =w.heap[b]?
 size:w.heap.size<=w'.heap.size
structure Bs where
 w:World
 own:Own:=ct
 ds:List Deferred:=[]
def Old (B:Bs)(b:Nat):Prop:=b<B.w.heap.size/\¬ ∃ id hd,B.own id=some hd/\b∈hd.bs
structure Fr (B:Bs)(own:Own)(w:World):Prop where
 ids:∀ (id:Nat) (hd:Hd),B.own id=some hd->∃ hd',own id=some hd'/\hd.like hd'
 base:∀ (id:Nat) (hd:Hd) (b:Nat),own id=some hd->b∈hd.bs->¬Old B b
 os:w.os=B.w.os
 tape:w.tape=B.w.tape
 output:w.output=B.w.output
 size:B.w.heap.size<=w.heap.size
 block:∀ k,Old B k->w.heap[k]? =B.w.heap[k]?
theorem Fr.refl (B:Bs):Fr B B.own B.w:=⟨fun _ hd h=>⟨hd,h,.refl _⟩,fun id hd _ h hb ho=>ho.2 ⟨id,hd,h,hb⟩,rfl,rfl,rfl,Nat.le_refl _,fun _ _=>rfl⟩
theorem Fr.below {B:Bs}{own:Own}{w w':World}(h:Fr B own w)(hb:Below w.heap.size w w'):Fr B own w':=
 ⟨h.ids,h.base,hb.os.trans h.os,hb.tape.trans h.tape,hb.output.trans h.output,Nat.le_trans h.size hb.size,fun k hk=>(hb.block k (Nat.lt_of_lt_of_le hk.1 h.size)).trans (h.block k hk)⟩
theorem Fr.drew {B:Bs}{own:Own}{w:World}(h:Fr B own w):Fr B own { w with drawn:=w.drawn+1}:=⟨h.ids,h.base,h.os,h.tape,h.output,h.size,h.block⟩
theorem Fr.trans {B:Bs}{own own':Own}{w w':World}(h:Fr B own w)(h':Fr { w:=w,own:=own} own' w'):Fr B own' w':=by
 have hold:∀ k,Old B k->Old { w:=w,own:=own} k:=fun k hk=>⟨Nat.lt_of_lt_of_le hk.1 h.size,fun⟨id,hd,hm,hb⟩ =>h.base id hd k hm hb hk⟩;refine⟨fun id hd hi=>?_,fun id hd b hi hb ho=>h'.base id hd b hi hb (hold b ho),h'.os.trans h.os,h'.tape.trans h.tape,h'.output.trans h.output,Nat.le_trans h.size h'.size,
  fun k hk=>(h'.block k (hold k hk)).trans (h.block k hk)⟩
 obtain⟨hd1,e1,l1⟩:=h.ids id hd hi;obtain⟨hd2,e2,l2⟩:=h'.ids id hd1 e1;exact⟨hd2,e2,l1.trans l2⟩
theorem Fr.goes {F:Nat->Prop}{own own':Own}{w w':World}(h:Fr { w:=w,own:=own} own' w'):Goes F own w own' w':=
 ⟨h.ids,fun b hb hn=>by
  have ho:Old { w:=w,own:=own} b:=⟨hb,fun⟨id,hd,hm,he⟩ =>hn (.inr ⟨id,hd,hm,he⟩)⟩;refine⟨?_,h.block b ho⟩;rintro (hf| ⟨id,hd,hm,he⟩)
  ·exact hn (.inl hf)
  ·exact h.base id hd b hm he ho,h.size⟩
theorem Fr.of_step {own own':Own}{w w':World}(ids:∀ (id:Nat) (hd:Hd),own id=some hd->∃ hd',own' id=some hd'/\hd.like hd')
  (bs:∀ id hd b,own' id=some hd->b∈hd.bs->(∃ id' hd',own id'=some hd'/\b∈hd'.bs)\/w.heap.size<=b)
  (block:∀ b,b<w.heap.size->(¬ ∃ id hd,own id=some hd/\b∈hd.bs)->w'.heap[b]? =w.heap[b]?) (size:w.heap.size<=w'.heap.size)
  (os:w'.os=w.os) (tape:w'.tape=w.tape) (output:w'.output=w.output):Fr { w:=w,own:=own} own' w':=
 ⟨ids,fun id hd b h1 h2 ho=>by
  rcases bs id hd b h1 h2 with h|h
  ·exact ho.2 h
  ·have:=ho.1;simp at this;omega,os,tape,output,size,fun k hk=>block k hk.1 hk.2⟩
theorem EK {w:World}{b o:Nat}{v:Value}(h:w.cell? ⟨b,o,none⟩=some v):b<w.heap.size:=World.block_lt_of_cell? w _ h
theorem sH {w w':World}{b:Nat}(h:w'.heap[b]? =w.heap[b]?)(o:Nat):w'.cell? ⟨b,o,none⟩=w.cell? ⟨b,o,none⟩:=by
 simp only[World.cell?,h]
theorem nA {w:World}{b:Nat}{o:Obj}(h:w.heap[b]? =some o):b<w.heap.size:=by
 rcases Nat.lt_or_ge b w.heap.size with h'|h'
 ·exact h'
 ·simp[Array.getElem?_eq_none h']at h
structure Carries (F:Nat->Prop)(own:Own)(w:World)(F':Nat->Prop)(own':Own)(w':World):Prop where
 ids:∀ (id:Nat) (hd:Hd),own id=some hd->∃ hd',own' id=some hd'/\hd.like hd'
 keep:∀ b,b<w.heap.size->¬bM F own b->¬bM F' own' b/\w'.heap[b]? =w.heap[b]?
theorem Goes.carries {F:Nat->Prop}{own own':Own}{w w':World}(g:Goes F own w own' w'):Carries F own w F own' w':=⟨g.ids,g.keep⟩
theorem Rel.carry {F F':Nat->Prop}{own own':Own}{w w':World}(g:Carries F own w F' own' w'){s:SV}{v:Value}(h:Rel F own w s v):Rel F' own' w' s v:=by
 induction h with
 |any v=>exact .any v
 |v x=>exact .v x
 |ptr h1 h2=>obtain⟨hd',e,l⟩:=g.ids _ _ h1;exact .ptr e (l.1.trans h2)
 |os h1 h2=>obtain⟨hd',e,l⟩:=g.ids _ _ h1;rw[<-l.2.1]at h2 |-;exact .os e h2
 |e0=>exact .e0
 |rc _ ih=>exact .rc ih
 |rp h1 h2 h3=>obtain⟨hd',e,l⟩:=g.ids _ _ h1;exact .rp e (l.2.1.trans h2) h3
 |gr h1 h2 h3=>obtain⟨hd',e,l⟩:=g.ids _ _ h1;exact .gr e (by rw[l.2.2];exact h2) h3
 |gp h1 h2 h3=>obtain⟨hd',e,l⟩:=g.ids _ _ h1;exact .gp e (by rw[l.2.2];exact h2) h3
 |vw h1 h2 h3=>obtain⟨hd',e,l⟩:=g.ids _ _ h1;exact .vw e (by rw[l.2.1];exact h2) h3
 |ep c h1 _ ih=>
  refine .ep c (fun j s hj=>?_) ih;obtain⟨hn,hc⟩:=h1 j s hj;obtain⟨hn',hk⟩:=g.keep _ (EK hc) hn;exact⟨hn',by rw[sH hk];exact hc⟩
 |rs c h0 h0' h1 _ ih=>
  refine .rs c h0 h0' (fun i x hi j s hj=>?_) ih;obtain⟨hn,hc⟩:=h1 i x hi j s hj;obtain⟨hn',hk⟩:=g.keep _ (EK hc) hn;exact⟨hn',by rw[sH hk];exact hc⟩
 |rs0=>exact .rs0
 |ls c h0 h1 _ ih=>
  refine .ls c h0 (fun j s hj=>?_) ih;obtain⟨hn,hc⟩:=h1 j s hj;obtain⟨hn',hk⟩:=g.keep _ (EK hc) hn;exact⟨hn',by rw[sH hk];exact hc⟩
 |rm ck cv es clock h0 h1 h2 h3 _ _ ih1 ih2=>
  obtain⟨hn',hk⟩:=g.keep _ (nA h1) h0;exact .rm ck cv es clock hn' (by rw[hk];exact h1) h2 h3 ih1 ih2
 |rm0=>exact .rm0
 |agg h0 _ ih=>exact .agg h0 ih
 |tup h0 _ ih=>exact .tup h0 ih
 |fn h0 h0' _ _ ih1 ih2=>exact .fn h0 h0' ih1 ih2
theorem Rel.mono {F:Nat->Prop}{own own':Own}{w w':World}(g:Goes F own w own' w'){s:SV}{v:Value}(h:Rel F own w s v):Rel F own' w' s v:=h.carry g.carries
theorem Goes.refl (F:Nat->Prop)(own:Own)(w:World):Goes F own w own w:=⟨fun _ hd h=>⟨hd,h,.refl _⟩,fun _ _ h=>⟨h,rfl⟩,Nat.le_refl _⟩
theorem ra (w:World)(o:Obj)(b:Nat)(h:b<w.heap.size):(w.alloc o).heap[b]? =w.heap[b]?:=Below.heap_alloc w o b h
theorem mD (w:World)(o:Obj):(w.alloc o).heap[w.heap.size]? =some o:=by show(w.heap.push o)[w.heap.size]? =_;simp
theorem jH (w:World)(o:Obj):(w.alloc o).heap.size=w.heap.size+1:=by show(w.heap.push o).size=_;simp
theorem Goes.below (F:Nat->Prop)(own:Own){w w':World}(h:Below w.heap.size w w'):Goes F own w own w':=
 ⟨fun _ hd h=>⟨hd,h,.refl _⟩,fun b hb hn=>⟨hn,h.block b hb⟩,h.size⟩
theorem rb (w:World)(o:Obj):Below w.heap.size w (w.alloc o):=(Below.refl _ _).alloc (Nat.le_refl _) o
theorem fU {α:Type}:∀ (l:List α) (i:Nat),nth l i=l[i]?
 | [],i=>by simp[nth]
 |x::r,0=>by simp[nth]
 |x::r,i+1=>by simp[nth,fU r i]
theorem se:∀ l:List SV,sz l=l.length
 | [] =>rfl
 |x::r=>by simp[sz,se r]
theorem EL:∀ (n:Nat) (l:List SV),cut n l=l.take n
 |0,l=>by simp[cut]
 |n+1,[] =>by simp[cut]
 |n+1,x::r=>by simp[cut,EL n r]
theorem A9:∀ (n:Nat) (l:List SV),F5 n l=l.drop n
 |0,l=>by simp[F5]
 |n+1,[] =>by simp[F5]
 |n+1,x::r=>by simp[F5,A9 n r]
theorem yN:∀ (l:List SV) (i:Nat) (s:SV),Bt l i s=l.set i s
 | [],i,s=>by simp[Bt]
 |x::r,0,s=>by simp[Bt]
 |x::r,i+1,s=>by simp[Bt,yN r i s]
theorem ou:∀ (vs cells:List SV) (off:Nat),(gT cells off vs).length=cells.length
 | [],cells,off=>rfl
 |x::xs,cells,off=>by simp[gT,ou xs,yN]
theorem pd:∀ (vs cells:List SV) (off:Nat),off+vs.length<=cells.length->∀ j,(gT cells off vs)[j]? =if off<=j/\j<off+vs.length then vs[j - off]? else cells[j]?
 | [],cells,off,_,j=>by simp only[gT,List.length_nil];rw[if_neg (by omega)]
 |x::xs,cells,off,h,j=>by
  simp only[List.length_cons]at h;rw[gT,pd xs _ _ (by simp[yN];omega),yN];by_cases hj:off+1<=j/\j<off+1+xs.length
  ·rw[if_pos hj,if_pos (by simp;omega),show j - off=(j - (off+1))+1 by omega,List.getElem?_cons_succ]
  ·rw[if_neg hj,List.getElem?_set];by_cases hjo:off=j
   ·subst hjo;rw[if_pos rfl,if_pos (by omega),if_pos (by simp)];simp
   ·rw[if_neg hjo,if_neg (by simp;omega)]
theorem qP:∀ (h:List Ob) (id:Nat),al h id=(h[id]?).getD .dead
 | [],id=>by simp[al]
 |o::r,0=>by simp[al]
 |o::r,n+1=>by simp[al,qP r n]
theorem b4:∀ (h:List Ob) (id:Nat) (x:Ob) (j:Nat),al (aW h id x) j=if id=j then x else al h j
 | [],0,x,j=>by cases j <;>simp[aW,al]
 | [],n+1,x,j=>by
  cases j with
  |zero=>simp[aW,al]
  |succ j=>simp only[aW,al,b4 [] n x j];by_cases h:n=j <;>simp[h]
 |o::r,0,x,j=>by cases j <;>simp[aW,al]
 |o::r,n+1,x,j=>by
  cases j with
  |zero=>simp[aW,al]
  |succ j=>simp only[aW,al,b4 r n x j];by_cases h:n=j <;>simp[h]
theorem bC:∀ (h:List Ob) (id:Nat) (x:Ob),(aW h id x).length=if id<h.length then h.length else id+1
 | [],0,x=>by simp[aW]
 | [],n+1,x=>by simp[aW,bC [] n x]
 |o::r,0,x=>by simp[aW]
 |o::r,n+1,x=>by simp only[aW,List.length_cons,bC r n x];by_cases h:n<r.length <;>simp[h] <;>omega
theorem pe {h:List Ob}{id:Nat}(hi:h.length<=id):al h id=.dead:=by rw[qP,List.getElem?_eq_none hi];rfl
theorem re (h l:List Ob)(id:Nat):al (h++l) id=if id<h.length then al h id else al l (id - h.length):=by
 rw[qP,qP,qP,List.getElem?_append];split <;>rfl
theorem BL {F:Nat->Prop}{own:Own}{w:World}{s:SV}{v:Value}{l:List SV}(h:Rel F own w s v)(hf:qh s=some l):
  v.cells.size=l.length/\∀ (j:Nat) (x:SV),l[j]? =some x->Rel F own w x (v.cells.getD j undef):=by
 have one:∀ {s:SV} {v:Value},Rel F own w s v->v.cells= #[v]->qh s=some [s]->qh s=some l->v.cells.size=l.length/\∀ (j:Nat) (x:SV),l[j]? =some x->Rel F own w x (v.cells.getD j undef):=by
  intro s v h hc h1 h2;rw[h1]at h2;simp only[Option.some.injEq]at h2;subst h2;rw[hc];refine⟨rfl,fun j x hj=>?_⟩;cases j with
  |zero=>simp at hj;subst hj;simpa using h
  |succ j=>simp at hj
 cases h with
 |any=>simp[qh]at hf
 |v=>
  cases v <;>first|exact one (.v _) rfl rfl hf|simp[qh]at hf
  subst hf;rename_i cs;refine⟨by simp[Value.cells],fun j y hj=>?_⟩;simp at hj;obtain⟨z,hz,rfl⟩:=hj;simp[Value.cells,hz];exact .v _
 |ptr h1 h2=>exact one (.ptr h1 h2) rfl rfl hf
 |os h1 h2=>exact one (.os h1 h2) (BK h2) rfl hf
 |e0=>exact one .e0 rfl rfl hf
 |rc h=>exact one (.rc h) rfl rfl hf
 |rp h1 h2 h3=>exact one (.rp h1 h2 h3) rfl rfl hf
 |gr h1 h2 h3=>exact one (.gr h1 h2 h3) (BK h3) rfl hf
 |gp h1 h2 h3=>exact one (.gp h1 h2 h3) rfl rfl hf
 |vw h1 h2 h3=>exact one (.vw h1 h2 h3) rfl rfl hf
 |ep c h1 h2=>exact one (.ep c h1 h2) rfl rfl hf
 |rs c h0 h0' h1 h2=>exact one (.rs c h0 h0' h1 h2) rfl rfl hf
 |rs0=>exact one .rs0 rfl rfl hf
 |ls c h0 h1 h2=>exact one (.ls c h0 h1 h2) rfl rfl hf
 |rm ck cv es clock h0 h1 h2 h3 h4 h5=>exact one (.rm ck cv es clock h0 h1 h2 h3 h4 h5) rfl rfl hf
 |rm0=>exact one .rm0 rfl rfl hf
 |agg h0 h1=>simp[qh]at hf;subst hf;exact⟨h0,h1⟩
 |tup=>simp[qh]at hf
 |fn h0 h0' h1 h2=>exact one (.fn h0 h0' h1 h2) rfl rfl hf
end Go.Sx
end
