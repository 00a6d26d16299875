/- Part of the proof that the law JudgementRight returns true and leaves its arguments as they were, for all arguments of bulk at most 1048576 (the Upto form). -/
import Derived.Calls
import Derived.Orders
import Derived.Below
import Derived.KernelRfl
import Derived.Laws.Sem
import Derived.Laws.World
import Derived.Laws.Cells
set_option linter.all false
set_option maxHeartbeats 4000000
set_option maxRecDepth 100000
section
namespace Go.Sx
open Go.RowKit
structure Range where
 lo:Int
 hi:Int
 deriving Inhabited,DecidableEq
structure Ratio where
 n:Int
 d:Int
 deriving Inhabited,DecidableEq
structure Reach where
 name:ByteArray
 up:Int
 delay:Int
 cap:Int
 bank:Int
 siphon:Int
 evap:Range
 seep:Ratio×Ratio
 deriving Inhabited,DecidableEq
structure Farm where
 name:ByteArray
 reach:Int
 area:Int
 crop:Int
 deriving Inhabited,DecidableEq
structure Crop where
 name:ByteArray
 need:Int
 deriving Inhabited,DecidableEq
structure Right where
 name:ByteArray
 kind:Int
 farm:Int
 reach:Int
 rank:Int
 litres:Int
 since:Int
 to:Int
 every:Int
 length:Int
 deriving Inhabited,DecidableEq
structure Duty where
 name:ByteArray
 farm:Int
 reach:Int
 due:Int
 deriving Inhabited,DecidableEq
structure Well where
 farm:Int
 reach:Int
 d:Int
 kernel:List Int
 deriving Inhabited,DecidableEq
structure Claim where
 right:Int
 farm:Int
 hour:Int
 litres:Int
 rank:Int
 deriving Inhabited,DecidableEq
structure Judgement where
 no:Int
 hour:Int
 kind:Int
 farm:Int
 other:Int
 since:Int
 to:Int
 n:Int
 of_:Int
 deriving Inhabited,DecidableEq
structure Case where
 no:Int
 hour:Int
 winner:Int
 facts:List Int
 reason:List Int
 deriving Inhabited,DecidableEq
structure Clause where
 no:Int
 then_:Int
 rank:Int
 strict:Bool
 if_:List Int
 deriving Inhabited,DecidableEq
structure Plea where
 facts:List Int
 clauses:List Clause
 deriving Inhabited,DecidableEq
structure Suit where
 no:Int
 hour:Int
 question:Int
 plea:Plea
 facts:List Int
 deriving Inhabited,DecidableEq
structure Order where
 hour:Int
 index:Int
 litres:Int
 outlet:Bool
 deriving Inhabited,DecidableEq
structure PrecedentsDecided where
 winner:Int
 facts:Int
 reason:Int
 deriving Inhabited,DecidableEq
structure Reason where
 literal:Int
 clause:Int
 proved:Bool
 deriving Inhabited,DecidableEq
structure TimetableSlot where
 index:Int
 hour:Int
 deriving Inhabited,DecidableEq
structure Tank where
 cap:Int
 start:Int
 deriving Inhabited,DecidableEq
structure District where
 name:ByteArray
 hours:Int
 tank:Tank
 reaches:List Reach
 farms:List Farm
 crops:List Crop
 rights:List Right
 duties:List Duty
 wells:List Well
 deriving Inhabited,DecidableEq
structure Cases where
 sides:List Int
 cases:List Case
 deriving Inhabited,DecidableEq
structure PrecedentsCourt where
 favour:Int×Int
 cases:List PrecedentsDecided
 deriving Inhabited,DecidableEq
structure PleasCourt where
 plea:Plea
 strict:List (Int×Bool)
 known:List (Int×Int)
 deriving Inhabited,DecidableEq
structure Fault where
 kind:Int
 hour:Int
 index:Int
 litres:Int
 limit:Int
 deriving Inhabited,DecidableEq
structure Acequiaref51State where
 strict:List Int
 proved:List Int
 refuted:List Int
 deriving Inhabited,DecidableEq
inductive Tag where
 |reach|farm|crop|right|duty|int|well|claim|judgement|case|clause|suit|bool|order|fnc|precedentsDecided|reason|int2|timetableSlot|tank|district|cases|plea|precedentsCourt|pleasCourt|fault|ratio|ratio2|range|acequiaref51State|str
 deriving DecidableEq
abbrev Tag.T:Tag→Type
 | .reach=>Reach
 | .farm=>Farm
 | .crop=>Crop
 | .right=>Right
 | .duty=>Duty
 | .int=>Int
 | .well=>Well
 | .claim=>Claim
 | .judgement=>Judgement
 | .case=>Case
 | .clause=>Clause
 | .suit=>Suit
 | .bool=>Bool
 | .order=>Order
 | .fnc=>Option Nat
 | .precedentsDecided=>PrecedentsDecided
 | .reason=>Reason
 | .int2=>Int×Int
 | .timetableSlot=>TimetableSlot
 | .tank=>Tank
 | .district=>District
 | .cases=>Cases
 | .plea=>Plea
 | .precedentsCourt=>PrecedentsCourt
 | .pleasCourt=>PleasCourt
 | .fault=>Fault
 | .ratio=>Ratio
 | .ratio2=>Ratio×Ratio
 | .range=>Range
 | .acequiaref51State=>Acequiaref51State
 | .str=>ByteArray
def xF:Tag→Nat
 | .reach=>0
 | .farm=>1
 | .crop=>2
 | .right=>3
 | .duty=>4
 | .int=>5
 | .well=>6
 | .claim=>7
 | .judgement=>8
 | .case=>9
 | .clause=>10
 | .suit=>11
 | .bool=>12
 | .order=>13
 | .fnc=>14
 | .precedentsDecided=>15
 | .reason=>16
 | .int2=>17
 | .timetableSlot=>18
 | .tank=>19
 | .district=>20
 | .cases=>21
 | .plea=>22
 | .precedentsCourt=>23
 | .pleasCourt=>24
 | .fault=>25
 | .ratio=>26
 | .ratio2=>27
 | .range=>28
 | .acequiaref51State=>29
 | .str=>30
def rank:Tag→Nat
 | .reach=>0
 | .farm=>0
 | .crop=>0
 | .right=>0
 | .duty=>0
 | .int=>0
 | .well=>1
 | .claim=>0
 | .judgement=>0
 | .case=>1
 | .clause=>1
 | .suit=>2
 | .bool=>0
 | .order=>0
 | .fnc=>1
 | .precedentsDecided=>0
 | .reason=>0
 | .int2=>0
 | .timetableSlot=>0
 | .tank=>0
 | .district=>2
 | .cases=>2
 | .plea=>2
 | .precedentsCourt=>1
 | .pleasCourt=>2
 | .fault=>0
 | .ratio=>0
 | .ratio2=>0
 | .range=>0
 | .acequiaref51State=>1
 | .str=>0
def Tag.ofName:String→Option Tag
 | "api.Reach" =>some .reach
 | "api.Farm" =>some .farm
 | "api.Crop" =>some .crop
 | "api.Right" =>some .right
 | "api.Duty" =>some .duty
 | "api.Errno" =>some .int
 | "expand.refused" =>some .int
 | "int" =>some .int
 | "int64" =>some .int
 | "api.Well" =>some .well
 | "api.Claim" =>some .claim
 | "api.Judgement" =>some .judgement
 | "api.Case" =>some .case
 | "api.Clause" =>some .clause
 | "api.Suit" =>some .suit
 | "bool" =>some .bool
 | "api.Order" =>some .order
 | "func() bool" =>some .fnc
 | "func(api.Order) int" =>some .fnc
 | "func(judgement.docket, api.Judgement) judgement.docket" =>some .fnc
 | "precedents.decided" =>some .precedentsDecided
 | "api.Reason" =>some .reason
 | "[2]int" =>some .int2
 | "[2]precedents.set" =>some .int2
 | "timetable.slot" =>some .timetableSlot
 | "api.Tank" =>some .tank
 | "api.District" =>some .district
 | "api.Cases" =>some .cases
 | "api.Plea" =>some .plea
 | "precedents.court" =>some .precedentsCourt
 | "pleas.court" =>some .pleasCourt
 | "api.Fault" =>some .fault
 | "api.Ratio" =>some .ratio
 | "[2]api.Ratio" =>some .ratio2
 | "api.Range" =>some .range
 | "acequiaref51.state" =>some .acequiaref51State
 | "string" =>some .str
 |_=>none
instance instDecTag:(k:Tag)→DecidableEq k.T
 | .reach=>inferInstanceAs (DecidableEq (Reach))
 | .farm=>inferInstanceAs (DecidableEq (Farm))
 | .crop=>inferInstanceAs (DecidableEq (Crop))
 | .right=>inferInstanceAs (DecidableEq (Right))
 | .duty=>inferInstanceAs (DecidableEq (Duty))
 | .int=>inferInstanceAs (DecidableEq (Int))
 | .well=>inferInstanceAs (DecidableEq (Well))
 | .claim=>inferInstanceAs (DecidableEq (Claim))
 | .judgement=>inferInstanceAs (DecidableEq (Judgement))
 | .case=>inferInstanceAs (DecidableEq (Case))
 | .clause=>inferInstanceAs (DecidableEq (Clause))
 | .suit=>inferInstanceAs (DecidableEq (Suit))
 | .bool=>inferInstanceAs (DecidableEq (Bool))
 | .order=>inferInstanceAs (DecidableEq (Order))
 | .fnc=>inferInstanceAs (DecidableEq (Option Nat))
 | .precedentsDecided=>inferInstanceAs (DecidableEq (PrecedentsDecided))
 | .reason=>inferInstanceAs (DecidableEq (Reason))
 | .int2=>inferInstanceAs (DecidableEq (Int×Int))
 | .timetableSlot=>inferInstanceAs (DecidableEq (TimetableSlot))
 | .tank=>inferInstanceAs (DecidableEq (Tank))
 | .district=>inferInstanceAs (DecidableEq (District))
 | .cases=>inferInstanceAs (DecidableEq (Cases))
 | .plea=>inferInstanceAs (DecidableEq (Plea))
 | .precedentsCourt=>inferInstanceAs (DecidableEq (PrecedentsCourt))
 | .pleasCourt=>inferInstanceAs (DecidableEq (PleasCourt))
 | .fault=>inferInstanceAs (DecidableEq (Fault))
 | .ratio=>inferInstanceAs (DecidableEq (Ratio))
 | .ratio2=>inferInstanceAs (DecidableEq (Ratio×Ratio))
 | .range=>inferInstanceAs (DecidableEq (Range))
 | .acequiaref51State=>inferInstanceAs (DecidableEq (Acequiaref51State))
 | .str=>inferInstanceAs (DecidableEq (ByteArray))
structure Res where
 yv:Value
 n:Nat
 R:(Nat→Prop)→List Nat→World→Prop
 loc:∀ (F F':Nat→Prop) (bs:List Nat) (w w':World),R F bs w→w.heap.size≤w'.heap.size→(∀ b,b<w.heap.size→¬F b→w'.heap[b]? =w.heap[b]?)→(∀ b,b<w.heap.size→F' b→F b)→R F' bs w'
instance:Inhabited Res:=⟨⟨.nilFunc,0,fun _ _ _=>True,fun _ _ _ _ _ _ _ _ _=>trivial⟩⟩
inductive SV where
 |any
 |v (x:Value)
 |ptr (id off:Nat)
 |os (id:Nat)
 |e0
 |rp (sz id:Nat) (i:Int) (off:Nat)
 |gr (id:Nat) (i:Int)
 |gp (sz id:Nat) (i j:Int) (off:Nat)
 |ep (cells:List SV) (off:Nat)
 |rs (k:Tag) (l:List k.T)
 |ls (l:List SV)
 |rm (kk vk:Tag) (l:List (kk.T×vk.T))
 |agg (l:List SV)
 |tup (l:List SV)
 |fn (f:FuncId) (first caps:List SV)
 |nw (k:Tag) (l:List k.T)
 |nm (kk vk:Tag) (l:List (kk.T×vk.T))
 |ng (k:Tag) (l:List (List k.T))
 |gd (j:Nat) (want:Bool) (s:SV)
 |vw (sz id:Nat) (lo hi:Int)
 deriving Inhabited
abbrev SV.i (n:Int):SV:=.v (.int .i64 n)
abbrev SV.b (x:Bool):SV:=.v (.bool x)
abbrev SV.s (x:ByteArray):SV:=.v (.string x)
def fnV:Option Nat→SV|some f=>.fn f [] [] |none=>.v .nilFunc
def cellsOf:(k:Tag)→k.T→List SV
 | .reach,x=>[.v (.string x.name),.v (.int .i64 x.up),.v (.int .i64 x.delay),.v (.int .i64 x.cap),.v (.int .i64 x.bank),.v (.int .i64 x.siphon),.v (.int .i64 x.evap.lo),.v (.int .i64 x.evap.hi),.v (.int .i64 x.seep.1.n),.v (.int .i64 x.seep.1.d),.v (.int .i64 x.seep.2.n),.v (.int .i64 x.seep.2.d)]
 | .farm,x=>[.v (.string x.name),.v (.int .i64 x.reach),.v (.int .i64 x.area),.v (.int .i64 x.crop)]
 | .crop,x=>[.v (.string x.name),.v (.int .i64 x.need)]
 | .right,x=>[.v (.string x.name),.v (.int .i64 x.kind),.v (.int .i64 x.farm),.v (.int .i64 x.reach),.v (.int .i64 x.rank),.v (.int .i64 x.litres),.v (.int .i64 x.since),.v (.int .i64 x.to),.v (.int .i64 x.every),.v (.int .i64 x.length)]
 | .duty,x=>[.v (.string x.name),.v (.int .i64 x.farm),.v (.int .i64 x.reach),.v (.int .i64 x.due)]
 | .int,x=>[.v (.int .i64 x)]
 | .well,x=>[.v (.int .i64 x.farm),.v (.int .i64 x.reach),.v (.int .i64 x.d),.rs .int x.kernel]
 | .claim,x=>[.v (.int .i64 x.right),.v (.int .i64 x.farm),.v (.int .i64 x.hour),.v (.int .i64 x.litres),.v (.int .i64 x.rank)]
 | .judgement,x=>[.v (.int .i64 x.no),.v (.int .i64 x.hour),.v (.int .i64 x.kind),.v (.int .i64 x.farm),.v (.int .i64 x.other),.v (.int .i64 x.since),.v (.int .i64 x.to),.v (.int .i64 x.n),.v (.int .i64 x.of_)]
 | .case,x=>[.v (.int .i64 x.no),.v (.int .i64 x.hour),.v (.int .i64 x.winner),.rs .int x.facts,.rs .int x.reason]
 | .clause,x=>[.v (.int .i64 x.no),.v (.int .i64 x.then_),.v (.int .i64 x.rank),.v (.bool x.strict),.rs .int x.if_]
 | .suit,x=>[.v (.int .i64 x.no),.v (.int .i64 x.hour),.v (.int .i64 x.question),.rs .int x.plea.facts,.rs .clause x.plea.clauses,.rs .int x.facts]
 | .bool,x=>[.v (.bool x)]
 | .order,x=>[.v (.int .i64 x.hour),.v (.int .i64 x.index),.v (.int .i64 x.litres),.v (.bool x.outlet)]
 | .fnc,x=>[fnV x]
 | .precedentsDecided,x=>[.v (.int .i64 x.winner),.v (.int .u64 x.facts),.v (.int .u64 x.reason)]
 | .reason,x=>[.v (.int .i64 x.literal),.v (.int .i64 x.clause),.v (.bool x.proved)]
 | .int2,x=>[.v (.int .i64 x.1),.v (.int .i64 x.2)]
 | .timetableSlot,x=>[.v (.int .i64 x.index),.v (.int .i64 x.hour)]
 | .tank,x=>[.v (.int .i64 x.cap),.v (.int .i64 x.start)]
 | .district,x=>[.v (.string x.name),.v (.int .i64 x.hours),.v (.int .i64 x.tank.cap),.v (.int .i64 x.tank.start),.rs .reach x.reaches,.rs .farm x.farms,.rs .crop x.crops,.rs .right x.rights,.rs .duty x.duties,.rs .well x.wells]
 | .cases,x=>[.rs .int x.sides,.rs .case x.cases]
 | .plea,x=>[.rs .int x.facts,.rs .clause x.clauses]
 | .precedentsCourt,x=>[.v (.int .u64 x.favour.1),.v (.int .u64 x.favour.2),.rs .precedentsDecided x.cases]
 | .pleasCourt,x=>[.rs .int x.plea.facts,.rs .clause x.plea.clauses,.rm .int .bool x.strict,.rm .int .int x.known]
 | .fault,x=>[.v (.int .i64 x.kind),.v (.int .i64 x.hour),.v (.int .i64 x.index),.v (.int .i64 x.litres),.v (.int .i64 x.limit)]
 | .ratio,x=>[.v (.int .i64 x.n),.v (.int .i64 x.d)]
 | .ratio2,x=>[.v (.int .i64 x.1.n),.v (.int .i64 x.1.d),.v (.int .i64 x.2.n),.v (.int .i64 x.2.d)]
 | .range,x=>[.v (.int .i64 x.lo),.v (.int .i64 x.hi)]
 | .acequiaref51State,x=>[.rs .int x.strict,.rs .int x.proved,.rs .int x.refuted]
 | .str,x=>[.v (.string x)]
def aa:Tag→Nat
 | .reach=>12
 | .farm=>4
 | .crop=>2
 | .right=>10
 | .duty=>4
 | .int=>1
 | .well=>4
 | .claim=>5
 | .judgement=>9
 | .case=>5
 | .clause=>5
 | .suit=>6
 | .bool=>1
 | .order=>4
 | .fnc=>1
 | .precedentsDecided=>3
 | .reason=>3
 | .int2=>2
 | .timetableSlot=>2
 | .tank=>2
 | .district=>10
 | .cases=>2
 | .plea=>2
 | .precedentsCourt=>3
 | .pleasCourt=>4
 | .fault=>5
 | .ratio=>2
 | .ratio2=>4
 | .range=>2
 | .acequiaref51State=>3
 | .str=>1
theorem a_ (k:Tag)(x:k.T):(cellsOf k x).length=aa k:=by cases k <;>rfl
def fK:(k:Tag)→k.T
 | .reach=>(default:Reach)
 | .farm=>(default:Farm)
 | .crop=>(default:Crop)
 | .right=>(default:Right)
 | .duty=>(default:Duty)
 | .int=>(0:Int)
 | .well=>(default:Well)
 | .claim=>(default:Claim)
 | .judgement=>(default:Judgement)
 | .case=>(default:Case)
 | .clause=>(default:Clause)
 | .suit=>(default:Suit)
 | .bool=>false
 | .order=>(default:Order)
 | .fnc=>(default:Option Nat)
 | .precedentsDecided=>(default:PrecedentsDecided)
 | .reason=>(default:Reason)
 | .int2=>(default:Int×Int)
 | .timetableSlot=>(default:TimetableSlot)
 | .tank=>(default:Tank)
 | .district=>(default:District)
 | .cases=>(default:Cases)
 | .plea=>(default:Plea)
 | .precedentsCourt=>(default:PrecedentsCourt)
 | .pleasCourt=>(default:PleasCourt)
 | .fault=>(default:Fault)
 | .ratio=>(default:Ratio)
 | .ratio2=>(default:Ratio×Ratio)
 | .range=>(default:Range)
 | .acequiaref51State=>(default:Acequiaref51State)
 | .str=>(ByteArray.mk #[])
inductive Kd where
 |s|b|n (k:IntKind) |r (k:Tag) |m (k k2:Tag) |f
def oF:Tag→Bool
 | .reach=>true
 | .farm=>true
 | .crop=>true
 | .right=>true
 | .duty=>true
 | .int=>false
 | .well=>true
 | .claim=>true
 | .judgement=>true
 | .case=>true
 | .clause=>true
 | .suit=>true
 | .bool=>false
 | .order=>true
 | .fnc=>false
 | .precedentsDecided=>true
 | .reason=>true
 | .int2=>true
 | .timetableSlot=>true
 | .tank=>true
 | .district=>true
 | .cases=>true
 | .plea=>true
 | .precedentsCourt=>true
 | .pleasCourt=>true
 | .fault=>true
 | .ratio=>true
 | .ratio2=>true
 | .range=>true
 | .acequiaref51State=>true
 | .str=>false
def EF:(k:Tag)→List (List k.T)→SV
 |_,_=>.any
def d8:Tag→List Kd
 | .reach=>[.s,.n .i64,.n .i64,.n .i64,.n .i64,.n .i64,.n .i64,.n .i64,.n .i64,.n .i64,.n .i64,.n .i64]
 | .farm=>[.s,.n .i64,.n .i64,.n .i64]
 | .crop=>[.s,.n .i64]
 | .right=>[.s,.n .i64,.n .i64,.n .i64,.n .i64,.n .i64,.n .i64,.n .i64,.n .i64,.n .i64]
 | .duty=>[.s,.n .i64,.n .i64,.n .i64]
 | .int=>[.n .i64]
 | .well=>[.n .i64,.n .i64,.n .i64,.r .int]
 | .claim=>[.n .i64,.n .i64,.n .i64,.n .i64,.n .i64]
 | .judgement=>[.n .i64,.n .i64,.n .i64,.n .i64,.n .i64,.n .i64,.n .i64,.n .i64,.n .i64]
 | .case=>[.n .i64,.n .i64,.n .i64,.r .int,.r .int]
 | .clause=>[.n .i64,.n .i64,.n .i64,.b,.r .int]
 | .suit=>[.n .i64,.n .i64,.n .i64,.r .int,.r .clause,.r .int]
 | .bool=>[.b]
 | .order=>[.n .i64,.n .i64,.n .i64,.b]
 | .fnc=>[.f]
 | .precedentsDecided=>[.n .i64,.n .u64,.n .u64]
 | .reason=>[.n .i64,.n .i64,.b]
 | .int2=>[.n .i64,.n .i64]
 | .timetableSlot=>[.n .i64,.n .i64]
 | .tank=>[.n .i64,.n .i64]
 | .district=>[.s,.n .i64,.n .i64,.n .i64,.r .reach,.r .farm,.r .crop,.r .right,.r .duty,.r .well]
 | .cases=>[.r .int,.r .case]
 | .plea=>[.r .int,.r .clause]
 | .precedentsCourt=>[.n .u64,.n .u64,.r .precedentsDecided]
 | .pleasCourt=>[.r .int,.r .clause,.m .int .bool,.m .int .int]
 | .fault=>[.n .i64,.n .i64,.n .i64,.n .i64,.n .i64]
 | .ratio=>[.n .i64,.n .i64]
 | .ratio2=>[.n .i64,.n .i64,.n .i64,.n .i64]
 | .range=>[.n .i64,.n .i64]
 | .acequiaref51State=>[.r .int,.r .int,.r .int]
 | .str=>[.s]
def toI:SV→Int| .v (.int _ n) =>n|_=>0
def toB:SV→Bool| .v (.bool b) =>b|_=>false
def toS:SV→ByteArray| .v (.string s) =>s|_=>ByteArray.mk #[]
def toF:SV→Option Nat| .fn f [] [] =>some f|_=>none
def yE:SV→List Reach| .rs .reach l=>l|_=>[]
def An:SV→List Farm| .rs .farm l=>l|_=>[]
def Ao:SV→List Crop| .rs .crop l=>l|_=>[]
def yF:SV→List Right| .rs .right l=>l|_=>[]
def Ap:SV→List Duty| .rs .duty l=>l|_=>[]
def lp:SV→List Int| .rs .int l=>l|_=>[]
def Aq:SV→List Well| .rs .well l=>l|_=>[]
def Cq:SV→List Claim| .rs .claim l=>l|_=>[]
def wJ:SV→List Judgement| .rs .judgement l=>l|_=>[]
def Ar:SV→List Case| .rs .case l=>l|_=>[]
def rH:SV→List Clause| .rs .clause l=>l|_=>[]
def EG:SV→List Suit| .rs .suit l=>l|_=>[]
def EH:SV→List Bool| .rs .bool l=>l|_=>[]
def Cr:SV→List Order| .rs .order l=>l|_=>[]
def Ib:SV→List (Option Nat) | .rs .fnc l=>l|_=>[]
def kT:SV→List PrecedentsDecided| .rs .precedentsDecided l=>l|_=>[]
def As:SV→List Reason| .rs .reason l=>l|_=>[]
def EI:SV→List (Int×Int) | .rs .int2 l=>l|_=>[]
def sC:SV→List TimetableSlot| .rs .timetableSlot l=>l|_=>[]
def EJ:SV→List Tank| .rs .tank l=>l|_=>[]
def xG:SV→List District| .rs .district l=>l|_=>[]
def Cs:SV→List Cases| .rs .cases l=>l|_=>[]
def EK:SV→List Plea| .rs .plea l=>l|_=>[]
def qX:SV→List PrecedentsCourt| .rs .precedentsCourt l=>l|_=>[]
def vn:SV→List PleasCourt| .rs .pleasCourt l=>l|_=>[]
def Ct:SV→List Fault| .rs .fault l=>l|_=>[]
def Cu:SV→List Ratio| .rs .ratio l=>l|_=>[]
def At:SV→List (Ratio×Ratio) | .rs .ratio2 l=>l|_=>[]
def Cv:SV→List Range| .rs .range l=>l|_=>[]
def pf:SV→List Acequiaref51State| .rs .acequiaref51State l=>l|_=>[]
def Ic:SV→List ByteArray| .rs .str l=>l|_=>[]
def uj:SV→List (Int×Bool) | .rm .int .bool l=>l|_=>[]
def vo:SV→List (Int×Int) | .rm .int .int l=>l|_=>[]
def at0:List SV→Nat→SV
 | [],_=>.any
 |x::_,0=>x
 |_::r,n+1=>at0 r n
def mkE:(k:Tag)→List SV→k.T
 | .reach,l=>(⟨toS (at0 l 0),toI (at0 l 1),toI (at0 l 2),toI (at0 l 3),toI (at0 l 4),toI (at0 l 5),⟨toI (at0 l 6),toI (at0 l 7)⟩,(⟨toI (at0 l 8),toI (at0 l 9)⟩,⟨toI (at0 l 10),toI (at0 l 11)⟩)⟩:Reach)
 | .farm,l=>(⟨toS (at0 l 0),toI (at0 l 1),toI (at0 l 2),toI (at0 l 3)⟩:Farm)
 | .crop,l=>(⟨toS (at0 l 0),toI (at0 l 1)⟩:Crop)
 | .right,l=>(⟨toS (at0 l 0),toI (at0 l 1),toI (at0 l 2),toI (at0 l 3),toI (at0 l 4),toI (at0 l 5),toI (at0 l 6),toI (at0 l 7),toI (at0 l 8),toI (at0 l 9)⟩:Right)
 | .duty,l=>(⟨toS (at0 l 0),toI (at0 l 1),toI (at0 l 2),toI (at0 l 3)⟩:Duty)
 | .int,l=>(toI (at0 l 0):Int)
 | .well,l=>(⟨toI (at0 l 0),toI (at0 l 1),toI (at0 l 2),lp (at0 l 3)⟩:Well)
 | .claim,l=>(⟨toI (at0 l 0),toI (at0 l 1),toI (at0 l 2),toI (at0 l 3),toI (at0 l 4)⟩:Claim)
 | .judgement,l=>(⟨toI (at0 l 0),toI (at0 l 1),toI (at0 l 2),toI (at0 l 3),toI (at0 l 4),toI (at0 l 5),toI (at0 l 6),toI (at0 l 7),toI (at0 l 8)⟩:Judgement)
 | .case,l=>(⟨toI (at0 l 0),toI (at0 l 1),toI (at0 l 2),lp (at0 l 3),lp (at0 l 4)⟩:Case)
 | .clause,l=>(⟨toI (at0 l 0),toI (at0 l 1),toI (at0 l 2),toB (at0 l 3),lp (at0 l 4)⟩:Clause)
 | .suit,l=>(⟨toI (at0 l 0),toI (at0 l 1),toI (at0 l 2),⟨lp (at0 l 3),rH (at0 l 4)⟩,lp (at0 l 5)⟩:Suit)
 | .bool,l=>(toB (at0 l 0):Bool)
 | .order,l=>(⟨toI (at0 l 0),toI (at0 l 1),toI (at0 l 2),toB (at0 l 3)⟩:Order)
 | .fnc,l=>(toF (at0 l 0):Option Nat)
 | .precedentsDecided,l=>(⟨toI (at0 l 0),toI (at0 l 1),toI (at0 l 2)⟩:PrecedentsDecided)
 | .reason,l=>(⟨toI (at0 l 0),toI (at0 l 1),toB (at0 l 2)⟩:Reason)
 | .int2,l=>((toI (at0 l 0),toI (at0 l 1)):Int×Int)
 | .timetableSlot,l=>(⟨toI (at0 l 0),toI (at0 l 1)⟩:TimetableSlot)
 | .tank,l=>(⟨toI (at0 l 0),toI (at0 l 1)⟩:Tank)
 | .district,l=>(⟨toS (at0 l 0),toI (at0 l 1),⟨toI (at0 l 2),toI (at0 l 3)⟩,yE (at0 l 4),An (at0 l 5),Ao (at0 l 6),yF (at0 l 7),Ap (at0 l 8),Aq (at0 l 9)⟩:District)
 | .cases,l=>(⟨lp (at0 l 0),Ar (at0 l 1)⟩:Cases)
 | .plea,l=>(⟨lp (at0 l 0),rH (at0 l 1)⟩:Plea)
 | .precedentsCourt,l=>(⟨(toI (at0 l 0),toI (at0 l 1)),kT (at0 l 2)⟩:PrecedentsCourt)
 | .pleasCourt,l=>(⟨⟨lp (at0 l 0),rH (at0 l 1)⟩,uj (at0 l 2),vo (at0 l 3)⟩:PleasCourt)
 | .fault,l=>(⟨toI (at0 l 0),toI (at0 l 1),toI (at0 l 2),toI (at0 l 3),toI (at0 l 4)⟩:Fault)
 | .ratio,l=>(⟨toI (at0 l 0),toI (at0 l 1)⟩:Ratio)
 | .ratio2,l=>((⟨toI (at0 l 0),toI (at0 l 1)⟩,⟨toI (at0 l 2),toI (at0 l 3)⟩):Ratio×Ratio)
 | .range,l=>(⟨toI (at0 l 0),toI (at0 l 1)⟩:Range)
 | .acequiaref51State,l=>(⟨lp (at0 l 0),lp (at0 l 1),lp (at0 l 2)⟩:Acequiaref51State)
 | .str,l=>(toS (at0 l 0):ByteArray)
def kN:IntKind→Nat
 | .i8=>0| .i16=>1| .i32=>2| .i64=>3| .u8=>4| .u16=>5| .u32=>6| .u64=>7
def fit:Kd→SV→Bool
 | .s,.v (.string _) =>true
 | .b,.v (.bool _) =>true
 | .n k,.v (.int k' _) =>Nat.beq (kN k) (kN k')
 | .r k,.rs k' _=>Nat.beq (xF k) (xF k')
 | .m k k2,.rm k' k2' _=>Nat.beq (xF k) (xF k')&&Nat.beq (xF k2) (xF k2')
 | .f,.fn _ [] [] =>true
 | .f,.v .nilFunc=>true
 |_,_=>false
def tz:List Kd→List SV→Bool
 | [],[] =>true
 |k::ks,x::xs=>fit k x&&tz ks xs
 |_,_=>false
def EL:Kd→SV→SV
 | .r k,.v (.slice none 0 0) =>.rs k []
 | .r k,.e0=>.rs k []
 | .m k k2,.v (.map none) =>.rm k k2 []
 |_,s=>s
def wC:List Kd→List SV→List SV
 |k::ks,s::r=>EL k s::wC ks r
 |_,l=>l
def tA (k:Tag)(l:List SV):Option k.T:=bif tz (d8 k) l then some (mkE k l)else none
def oG (k:Tag)(l:List SV):Option k.T:=tA k (wC (d8 k) l)
inductive Pk where
 |st (k:Tag)
 |sl (k:Tag)
 |mp (k k2:Tag)
 |o
def yG:Pk→SV→SV
 | .st k,.agg l=>.agg (wC (d8 k) l)
 | .sl k,s=>EL (.r k) s
 | .mp k k2,s=>EL (.m k k2) s
 |_,s=>s
def bA:List Pk→List SV→List SV
 |p::ps,s::r=>yG p s::bA ps r
 |_,l=>l
structure TI where
 size:Nat
 bytes:Nat
 agg:Bool
 zero:List SV
 fields:List (Nat×Nat×Bool)
 elem:Nat
 len:Nat
 isSlice:Bool
 isArr:Bool
 tag:Option Tag
 int:Option IntKind
 iface:Bool
 eq:List Nat
 mkt:Option Tag
 mvt:Option Tag
 sc:Nat
def svs (v:Value):List SV:=v.cells.toList.map .v
def nu (P:Program)(t:TypeId):Nat:=match P.info? t with|some i=>i.size|none=>0
def j5 (P:Program)(t:TypeId):Bool:=match P.underlying t with|some (.struct _) =>true|some (.array _ _) =>true|_=>false
def bI:Option TypeDesc→Nat
 |some (.int _) =>1
 |some .string=>2
 |some .bool=>3
 |_=>0
def eqFields (P:Program):Nat→List Field→Bool
 |_,[] =>true
 |n,f::r=>(f.name != "_")&&Nat.beq f.offset n&&Nat.blt 0 (bI (P.underlying f.type))&&eqFields P (n+1) r
def nS (P:Program)(t:TypeId)(d:TypeDesc):List Nat:=match d with
 | .struct fs=>bif !P.stoodInHeld t&& !P.eqGuardType P.depth t&&eqFields P 0 fs.toList then fs.toList.map fun f=>bI (P.underlying f.type)else []
 | .array n e=>bif !P.eqGuardType P.depth t&&Nat.blt 0 (bI (P.underlying e))&&Nat.beq (nu P e) 1 then List.replicate n (bI (P.underlying e))else []
 |_=>[]
def nv (P:Program)(t:TypeId):List Nat:=match P.underlying t with
 |some (.struct gs) =>bif !P.stoodInHeld t&&eqFields P 0 gs.toList&&Nat.beq (nu P t) gs.size&&(P.info? t).isSome then gs.toList.map fun f=>bI (P.underlying f.type)else []
 |d=>bif Nat.blt 0 (bI d)then [bI d]else []
def tB (P:Program):Nat→List Field→Bool
 |_,[] =>true
 |n,f::r=>(f.name != "_")&&Nat.beq f.offset n&&Nat.blt 0 (nv P f.type).length&&tB P (n+(nv P f.type).length) r
def Dt (P:Program)(t:TypeId)(d:TypeDesc):List Nat:=match d with
 | .struct fs=>bif !P.stoodInHeld t&& !P.eqGuardType P.depth t&&tB P 0 fs.toList then fs.toList.flatMap fun f=>nv P f.type else []
 |_=>[]
def K1 (P:Program)(t:TypeId)(d:TypeDesc):List Nat:=match nS P t d with
 | [] =>Dt P t d
 |l=>l
def Id:SV→SV→Bool
 | .v (.int k a),.v (.int k' b) =>Nat.beq (kN k) (kN k')&&(match a,b with| .ofNat 0,.ofNat 0=>true|_,_=>false)
 | .v (.string a),.v (.string b) =>Nat.beq a.size 0&&Nat.beq b.size 0
 | .v (.bool false),.v (.bool false) =>true
 | .rs _ [],.v (.slice none 0 0) =>true
 | .rm _ _ [],.v (.map none) =>true
 | .v .nilFunc,.v .nilFunc=>true
 |_,_=>false
def s6:List SV→List SV→Bool
 | [],[] =>true
 |a::r,b::s=>Id a b&&s6 r s
 |_,_=>false
def yH:Bool→Bool→Bool
 |true,true=>true
 |false,false=>true
 |_,_=>false
def Au:Value→Bool
 | .agg _=>true
 |_=>false
def yI (P:Program)(t:TypeId)(i:TypeInfo)(k:Tag):Bool:=
 (match i.zero with|some z=>yH (Au z) (oF k) |none=>false)&&Nat.beq i.size (aa k)&&Nat.ble 1 i.bytes&&s6 (cellsOf k (fK k)) (match i.zero with|some z=>svs z|none=>[])&&yH (j5 P t) (oF k)
def wK (P:Program)(t:TypeId)(i:TypeInfo):Option Tag:=match Tag.ofName i.str with|some k=>bif yI P t i k then some k else none|none=>none
def EM (P:Program)(t:TypeId):Option Tag:=match P.info? t with|some i=>wK P t i|none=>none
def ip:Kd→Nat
 | .n _=>1
 | .s=>2
 | .b=>3
 |_=>0
def Av:List Nat→List Nat→Bool
 | [],[] =>true
 |a::r,b::s=>Nat.beq a b&&Av r s
 |_,_=>false
def GJ (P:Program)(t:TypeId)(k:Tag):Bool:=match P.underlying t with
 |some d=>bif j5 P t then Av ((d8 k).map ip) (nS P t d)&&Nat.blt 0 (d8 k).length else Av ((d8 k).map ip) [bI (some d)]&&Nat.blt 0 (bI (some d))
 |none=>false
def EN (P:Program)(t:TypeId):Option Tag:=match EM P t with|some k=>bif GJ P t k then some k else none|none=>none
def dg (P:Program)(t:TypeId)(i:TypeInfo)(d:TypeDesc):TI:=
 {size:=i.size
  bytes:=i.bytes
  agg:=j5 P t
  zero:=match i.zero with|some z=>svs z|none=>[]
  fields:=match d with| .struct fs=>fs.toList.map fun f=>(f.offset,nu P f.type,j5 P f.type) |_=>[]
  elem:=match d with| .slice e=>e| .array _ e=>e| .map _ e=>e|_=>0
  len:=match d with| .array n _=>n|_=>0
  isSlice:=match d with| .slice _=>true|_=>false
  isArr:=match d with| .array _ _=>true|_=>false
  tag:=wK P t i
  int:=match d with| .int k=>some k|_=>none
  iface:=match d with| .interface _=>true|_=>false
  eq:=K1 P t d
  mkt:=match d with| .map k _=>EN P k|_=>none
  mvt:=match d with| .map _ e=>EM P e|_=>none
  sc:=bI (some d)}
def vp (P:Program)(d:TypeDesc):Bool:=match d with| .struct fs=>fs.toList.all fun f=>(P.info? f.type).isSome&&(P.underlying f.type).isSome|_=>true
def cC (P:Program)(t:TypeId):Option TI:=
 match P.info? t,P.underlying t with
 |some i,some d=>bif i.zero.isSome&&vp P d then some (dg P t i d)else none
 |_,_=>none
abbrev Tis:=TypeId→Option TI
def Tis.ok (ts:Tis)(P:Program):Prop:= ∀ t i,ts t=some i→cC P t=some i
inductive Ob where
 |cells (l:List SV)
 |dead
 |row (k:Tag) (l:List k.T)
 |mp (kk vk:Tag) (l:List (kk.T×vk.T)) (pend:Option (Nat×Option kk.T))
 |grid (k:Tag) (l:List (List k.T))
 |ab (r:Res)
 |raw (o:Obj)
 |mi (mid:Option Nat) (n:Nat) (left:List Nat) (cur:Option Nat)
 |fwd (n:Option Nat)
 |fz (k:Tag) (l:List k.T)
instance:Inhabited Ob:=⟨.dead⟩
structure St where
 t:List (Nat×SV)
 h:List Ob
 deriving Inhabited
def lk (t:Nat):List (Nat×SV)→SV
 | [] =>.any
 |(a,s)::r=>bif Nat.beq a t then s else lk t r
def St.put (st:St)(d:Option Nat)(s:SV):St:=match d with|some d=>⟨(d,s)::st.t,st.h⟩ |none=>st
def am:List Ob→Nat→Ob
 | [],_=>.dead
 |o::_,0=>o
 |_::r,n+1=>am r n
def bo:List Ob→Nat→Ob→List Ob
 | [],0,x=>[x]
 | [],n+1,x=>.dead::bo [] n x
 |_::r,0,x=>x::r
 |o::r,n+1,x=>o::bo r n x
abbrev Up:=Nat×Ob
def noE {κ:Type}:Option (Nat×Option κ)→Bool
 |some (_,some _) =>false
 |_=>true
def aU (h:List Ob):List Up→List Ob
 | [] =>h
 |(id,o)::r=>aU (bo h id o) r
inductive Con where
 |det (pre:Prop) (s:SV)
 |rel (α:Type) (pre:Prop) (post:α→Prop) (out:α→SV)
 |may (ok:Bool) (s:SV) (x:Value)
inductive Rs where
 |ret (s:SV) (h:List Ob)
 |pan (x:Value) (h:List Ob)
structure HCon where
 α:Type
 pre:Prop
 post:α→Prop
 res:α→Rs
structure YCon where
 α:Type
 pre:Prop
 post:α→Prop
 res:α→Bool×Res
structure Cons where
 p:FuncId→List SV→Option Con
 o:FuncId→List SV→List Ob→Option HCon
 y:List SV→Res→Option YCon
def pc:SV→Option (List SV)
 | .agg l=>some l
 | .v (.agg cs) =>some (cs.toList.map .v)
 | .v (.tuple _) =>none
 | .any=>none
 | .tup _=>none
 | .gd .. =>none
 | .nw .. =>none
 | .nm .. =>none
 | .ng .. =>none
 |s=>some [s]
def nth {α:Type}:List α→Nat→Option α
 | [],_=>none
 |x::_,0=>some x
 |_::r,n+1=>nth r n
def cut:Nat→List SV→List SV
 |0,_=>[]
 |_+1,[] =>[]
 |n+1,x::r=>x::cut n r
def EO:Nat→List SV→List SV
 |0,l=>l
 |_+1,[] =>[]
 |n+1,_::r=>EO n r
def sz:List SV→Nat
 | [] =>0
 |_::r=>sz r+1
def qH (agg:Bool)(size:Nat)(cells:List SV)(off:Nat):Option SV:=
 bif agg then(bif Nat.ble (off+size) (sz cells)then some (.agg (cut size (EO off cells)))else none)
 else nth cells off
def Aw:List SV→Nat→SV→List SV
 | [],_,_=>[]
 |_::r,0,s=>s::r
 |x::r,n+1,s=>x::Aw r n s
def gH (cells:List SV)(off:Nat):List SV→List SV
 | [] =>cells
 |x::xs=>gH (Aw cells off x) (off+1) xs
section
variable {κ υ:Type}
def jT [DecidableEq κ]:List (κ×υ)→κ→Option υ
 | [],_=>none
 |(a,b)::r,x=>if x=a then some b else jT r x
def vr [DecidableEq κ]:List (κ×υ)→κ→υ→List (κ×υ)
 | [],x,y=>[(x,y)]
 |(a,b)::r,x,y=>if x=a then(x,y)::r else(a,b)::vr r x y
def GK [DecidableEq κ]:List (κ×υ)→κ→Nat
 | [],_=>0
 |(a,_)::r,x=>if x=a then 0 else GK r x+1
end
def fZ (kk vk:Tag)(l:List (kk.T×vk.T))(x:kk.T):vk.T:=(jT l x).getD (fK vk)
def Ie (kk vk:Tag)(l:List (kk.T×vk.T))(x:kk.T):Bool:=(jT l x).isSome
def lr (kk vk:Tag)(l:List (kk.T×vk.T))(x:kk.T)(y:vk.T):List (kk.T×vk.T):=vr l x y
def zJ {κ υ:Type}[DecidableEq κ]:List (κ×υ)→κ→List (κ×υ)
 | [],_=>[]
 |(a,b)::r,x=>if x=a then r else(a,b)::zJ r x
def xH (kk vk:Tag)(l:List (kk.T×vk.T))(x:kk.T):List (kk.T×vk.T):=zJ l x
def qY (kk vk:Tag)(l:List (kk.T×vk.T))(x:kk.T):Nat:=GK l x
def VI (kk vk:Tag)(l:List (kk.T×vk.T))(x:kk.T):Option kk.T:=if(jT l x).isSome then none else some x
def svT (k:Tag)(x:k.T):SV:=bif oF k then .agg (cellsOf k x)else(nth (cellsOf k x) 0).getD .any
def zk (k:Tag):Option (List SV)→Option k.T
 |some l=>oG k l
 |none=>none
def xI:SV→Option (List SV)
 | .agg l=>some l
 | .v (.agg cs) =>some (cs.toList.map .v)
 |_=>none
def yJ:SV→Option (List SV)
 | .agg _=>none
 | .v (.agg _) =>none
 |s=>pc s
def unT (k:Tag)(s:SV):Option k.T:=bif oF k then zk k (xI s)else zk k (yJ s)
inductive OR where
 |val (s:SV)
 |chk (c:Prop) (s:SV)
 |asm (c:Prop) (s:SV)
 |newr (s:SV)
 |eff (c a:Prop) (ups:List Up) (s:SV)
 |call (f:FuncId) (args:List SV)
 |yld (id:Nat) (args:List SV)
 |nxt (id:Nat)
 |amb (p:Bool→Prop)
 |pan (x:Value)
 |bad
structure Cx where
 ts:Tis
 ops:List Oper
 g:Option (Nat×Bool)
 st:St
 nx:Nat
def p9 (ops:List Oper):Nat→Option (Nat×Bool)→Nat→Bool→Bool
 |0,_,_,_=>false
 |_+1,none,_,_=>false
 |n+1,some (j,b),j',b'=>bif Nat.beq j j'&&yH b b' then true else p9 ops n ((nth ops j).bind (·.guard)) j' b'
def ba (ops:List Oper)(g:Option (Nat×Bool)):SV→SV
 | .gd j b s=>bif p9 ops ops.length g j b then s else .any
 | .any=>.any
 | .v x=>.v x
 | .ptr a b=>.ptr a b
 | .os a=>.os a
 | .e0=>.e0
 | .rp a b c d=>.rp a b c d
 | .gr a b=>.gr a b
 | .gp a b c d e=>.gp a b c d e
 | .ep a b=>.ep a b
 | .rs k l=>.rs k l
 | .ls l=>.ls l
 | .rm k k2 l=>.rm k k2 l
 | .agg l=>.agg l
 | .tup l=>.tup l
 | .fn f l m=>.fn f l m
 | .nw k l=>.nw k l
 | .nm k k2 l=>.nm k k2 l
 | .ng k l=>.ng k l
 | .vw a b c d=>.vw a b c d
def raw (t:List (Nat×SV)):Operand→SV
 | .tmp n=>lk n t
 | .const x=>.v x
 | .func f=>.fn f [] []
 | .global _=>.any
def val (cx:Cx)(x:Operand):SV:=ba cx.ops cx.g (raw cx.st.t x)
def cD (cx:Cx):List Operand→List SV
 | [] =>[]
 |x::r=>val cx x::cD cx r
def oE (cx:Cx):Option Operand→Option SV
 |some x=>some (val cx x)
 |none=>none
def gI (cx:Cx):List (Nat×Operand)→List (Nat×SV)
 | [] =>[]
 |(i,x)::r=>(i,val cx x)::gI cx r
def isTrue:Operand→Bool
 | .const (.bool true) =>true
 |_=>false
def isFalse:Operand→Bool
 | .const (.bool false) =>true
 |_=>false
def Cw (ops:List Oper)(j:Nat)(c:Operand):Bool:=
 match (nth ops j).bind (·.dst),c with
 |some d,.tmp t=>Nat.beq d t
 |_,_=>false
def kC (ops:List Oper)(g:Option (Nat×Bool))(c:Operand)(want:Bool):SV→SV
 | .gd j b s=>bif yH b want&&Cw ops j c then s else ba ops g (.gd j b s)
 |s=>ba ops g s
def Ax (a b:Operand):SV→SV→SV→OR
 | .v (.bool x),.v (.bool y),.v (.bool z) =>bif isTrue a then .val (.b (x||z))else bif isFalse b then .val (.b (x&&y))else .bad
 | .v (.bool x),.any,.v (.bool z) =>.chk (x=false) (.b z)
 | .v (.bool x),.v (.bool y),.any=>.chk (x=true) (.b y)
 |_,_,_=>.bad
def VJ (k:IntKind)(a b:Int):Int:=a.fdiv (2 ^ min b.toNat k.bits)
def K2 (k:IntKind)(a b:Int):Int:=k.wrap (a*2 ^ min b.toNat k.bits)
def EP (k:IntKind)(a b:Int):Int:=k.wrap ((BitVec.ofInt k.bits a&&&BitVec.ofInt k.bits b).toNat:Int)
def orI (k:IntKind)(a b:Int):Int:=k.wrap ((BitVec.ofInt k.bits a|||BitVec.ofInt k.bits b).toNat:Int)
def VK (k:IntKind)(a b:Int):Int:=k.wrap ((BitVec.ofInt k.bits a ^^^ BitVec.ofInt k.bits b).toNat:Int)
def xJ (k:IntKind)(a b:Int):Int:=k.wrap ((BitVec.ofInt k.bits a&&& ~~~(BitVec.ofInt k.bits b)).toNat:Int)
def tC (op:BinOp)(k:IntKind)(a b:Int):OR:=
 match op with
 | .add=>.val (.v (.int k (k.wrap (a+b))))
 | .sub=>.val (.v (.int k (k.wrap (a - b))))
 | .mul=>.val (.v (.int k (k.wrap (a*b))))
 | .quo=>.chk (b≠0) (.v (.int k (k.wrap (a.tdiv b))))
 | .rem=>.chk (b≠0) (.v (.int k (a.tmod b)))
 | .shr=>.chk (0≤b) (.v (.int k (VJ k a b)))
 | .shl=>.chk (0≤b) (.v (.int k (K2 k a b)))
 | .and=>.val (.v (.int k (EP k a b)))
 | .or=>.val (.v (.int k (orI k a b)))
 | .xor=>.val (.v (.int k (VK k a b)))
 | .andNot=>.val (.v (.int k (xJ k a b)))
 | .eql=>.val (.v (.bool (a==b)))
 | .neq=>.val (.v (.bool (a !=b)))
 | .lss=>.val (.v (.bool (decide (a<b))))
 | .leq=>.val (.v (.bool (decide (a≤b))))
 | .gtr=>.val (.v (.bool (decide (a > b))))
 | .geq=>.val (.v (.bool (decide (a≥b))))
def If (op:BinOp)(a b:ByteArray):OR:=
 match op with
 | .eql=>.val (.v (.bool (a==b)))
 | .neq=>.val (.v (.bool (a !=b)))
 |_=>.bad
def Du (op:BinOp)(a b:Bool):OR:=
 match op with
 | .eql=>.val (.v (.bool (a==b)))
 | .neq=>.val (.v (.bool (a !=b)))
 |_=>.bad
def eqV (c:Nat):SV→SV→Option Bool
 | .v (.int k a),.v (.int k' b) =>bif Nat.beq c 1&&Nat.beq (kN k) (kN k')then some (a==b)else none
 | .v (.string a),.v (.string b) =>bif Nat.beq c 2 then some (a==b)else none
 | .v (.bool a),.v (.bool b) =>bif Nat.beq c 3 then some (a==b)else none
 |_,_=>none
def w8:Option Bool→Option Bool→Option Bool
 |some a,some b=>some (a&&b)
 |_,_=>none
def eqL:List Nat→List SV→List SV→Option Bool
 | [],[],[] =>some true
 |c::cs,x::r,y::s=>w8 (eqV c x y) (eqL cs r s)
 |_,_,_=>none
def eqO (op:BinOp):Option Bool→OR
 |some b=>match op with| .eql=>.val (.v (.bool b)) | .neq=>.val (.v (.bool !b)) |_=>.bad
 |none=>.bad
def Rg (op:BinOp)(l m:List SV):List Nat→OR
 | [] =>.bad
 |c::cs=>eqO op (eqL (c::cs) l m)
def aF (ts:Tis)(t:TypeId)(k:TI→OR):OR:=match ts t with|some i=>k i|none=>.bad
def eqT (op:BinOp)(l m:List SV)(ti:TI):OR:=Rg op l m ti.eq
def xK (op:BinOp)(k k':IntKind):Bool:=
 match op with
 | .shl=>true
 | .shr=>true
 |_=>Nat.beq (kN k) (kN k')
def Rh (op:BinOp):SV→SV→OR
 | .v (.int k a),.v (.int k' b) =>bif xK op k k' then tC op k a b else .bad
 |_,_=>.bad
def N6 (op:BinOp)(p:Prop):OR:=
 match op with
 | .eql=>.amb fun b=>b=true→p
 | .neq=>.amb fun b=>b=false→p
 |_=>.bad
def eqS (op:BinOp)(ti:TI):SV→SV→OR
 | .rs _ l,.v (.slice none 0 0) =>bif ti.isSlice then N6 op (l=[])else .bad
 | .v (.string a),.v (.string b) =>bif Nat.beq ti.sc 2 then If op a b else .bad
 | .v (.bool a),.v (.bool b) =>bif Nat.beq ti.sc 3 then Du op a b else .bad
 | .agg l,.agg m=>eqT op l m ti
 |_,_=>.bad
def Dv (ts:Tis)(op:BinOp)(t:TypeId):SV→SV→OR
 | .v (.int k a),.v (.int k' b) =>Rh op (.v (.int k a)) (.v (.int k' b))
 |a,b=>aF ts t fun ti=>eqS op ti a b
def unS:UnOp→SV→OR
 | .not,.v (.bool b) =>.val (.v (.bool !b))
 | .neg,.v (.int k n) =>.val (.v (.int k (k.wrap (0 - n))))
 |_,_=>.bad
def tD:Option SV→OR
 |some s=>.val s
 |none=>.bad
def Ay (agg:Bool)(size szt:Nat)(id:Nat)(i:Int)(off:Nat):Ob→OR
 | .row k l=>bif Nat.beq szt (aa k)then tD (qH agg size (cellsOf k (l.getD i.toNat (fK k))) off)else .bad
 | .grid _ _=>bif Nat.beq szt 1&&Nat.beq off 0&& !agg then .val (.gr id i)else .bad
 |_=>.bad
def yK (agg:Bool)(size szt:Nat)(i j:Int)(off:Nat):Ob→OR
 | .grid k l=>bif Nat.beq szt (aa k)then tD (qH agg size (cellsOf k ((l.getD i.toNat []).getD j.toNat (fK k))) off)else .bad
 |_=>.bad
def xL (agg:Bool)(size off:Nat):Ob→OR
 | .cells l=>tD (qH agg size l off)
 |_=>.bad
def qh (ti:TI)(h:List Ob):SV→OR
 | .ptr id off=>xL ti.agg ti.size off (am h id)
 | .ep l off=>tD (qH ti.agg ti.size l off)
 | .rp s id i off=>Ay ti.agg ti.size s id i off (am h id)
 | .gp s id i j off=>yK ti.agg ti.size s i j off (am h id)
 |_=>.bad
def xM (n:Nat):SV→OR
 | .ptr id off=>.val (.ptr id (off+n))
 | .ep l off=>.val (.ep l (off+n))
 | .rp s id i off=>.val (.rp s id i (off+n))
 | .gp s id i j off=>.val (.gp s id i j (off+n))
 |_=>.bad
def Az (esz id:Nat)(i:Int):Ob→OR
 | .row k l=>bif Nat.beq esz (aa k)then .chk (0≤i∧i< (l.length:Int)) (.rp esz id i 0)else .bad
 | .grid _ l=>bif Nat.beq esz 1 then .chk (0≤i∧i< (l.length:Int)) (.rp 1 id i 0)else .bad
 |_=>.bad
def Dw (esz id:Nat)(i j:Int):Ob→OR
 | .grid k l=>bif Nat.beq esz (aa k)then .chk (0≤j∧j< ((l.getD i.toNat []).length:Int)) (.gp esz id i j 0)else .bad
 |_=>.bad
def GL (i:Int):Option SV→OR
 |some s=>.chk (0≤i) (.ep [s] 0)
 |none=>.bad
def gY (ti:TI)(esz:Nat)(h:List Ob):SV→SV→OR
 | .rs k l,.v (.int _ i) =>bif ti.isSlice&&Nat.beq esz (aa k)then .chk (0≤i∧i< (l.length:Int)) (.ep (cellsOf k (l.getD i.toNat (fK k))) 0)else .bad
 | .os id,.v (.int _ i) =>bif ti.isSlice then Az esz id i (am h id)else .bad
 | .gr id i,.v (.int _ j) =>bif ti.isSlice then Dw esz id i j (am h id)else .bad
 | .ls l,.v (.int _ i) =>bif ti.isSlice&&Nat.beq esz 1 then GL i (nth l i.toNat)else .bad
 | .ptr id off,.v (.int _ i) =>bif ti.isArr then .chk (0≤i∧i< (ti.len:Int)) (.ptr id (off+i.toNat*esz))else .bad
 | .ep l off,.v (.int _ i) =>bif ti.isArr then .chk (0≤i∧i< (ti.len:Int)) (.ep l (off+i.toNat*esz))else .bad
 | .rp s id i off,.v (.int _ j) =>bif ti.isArr then .chk (0≤j∧j< (ti.len:Int)) (.rp s id i (off+j.toNat*esz))else .bad
 |_,_=>.bad
def lK (place:Nat→Option (Nat×Nat))(cells:List SV):List (Nat×SV)→Option (List SV)
 | [] =>some cells
 |(i,v)::rest=>
  match place i,pc v with
  |some (off,size),some vs=>bif Nat.beq (sz vs) size&&Nat.ble (off+size) (sz cells)then lK place (gH cells off vs) rest else none
  |_,_=>none
def qZ (k:Tag)(size:Nat):Nat→List SV→Option (List k.T)
 |0,_=>some []
 |n+1,cells=>match oG k (cut size cells),qZ k size n (EO size cells)with
  |some x,some xs=>some (x::xs)
  |_,_=>none
def zK (n:Nat)(z:List SV):List SV:=match n with|0=>[] |n+1=>z++zK n z
def rI (f:Option (Nat×Nat×Bool))(l:Option (List SV)):OR:=
 match f,l with
 |some (o,n,g),some l=>tD (qH g n l o)
 |_,_=>.bad
def GM:SV→Bool
 | .v (.agg _) =>false
 | .v (.tuple _) =>false
 | .any=>false
 | .agg _=>false
 | .tup _=>false
 | .gd .. =>false
 | .nw .. =>false
 | .nm .. =>false
 | .ng .. =>false
 |_=>true
def uk:List SV→Bool
 | [] =>true
 |x::r=>GM x&&uk r
def GN (k:Tag)(id:Nat)(i:Int)(l:List k.T):Option k.T→OR
 |some x=>.eff True True [(id,.row k (l.set i.toNat x))] .any
 |none=>.bad
def Dx (k:Tag)(id:Nat)(i j:Int)(l:List (List k.T)):Option k.T→OR
 |some x=>.eff True True [(id,.grid k (l.set i.toNat ((l.getD i.toNat []).set j.toNat x)))] .any
 |none=>.bad
def GO (id off:Nat)(vs:List SV):Ob→OR
 | .cells l=>bif Nat.ble (off+sz vs) (sz l)&&uk vs then .eff True True [(id,.cells (gH l off vs))] .any else .bad
 |_=>.bad
def GP (s id:Nat)(i:Int)(off:Nat)(vs:List SV):Ob→OR
 | .row k l=>bif Nat.beq s (aa k)&&Nat.ble (off+sz vs) s then GN k id i l (oG k (gH (cellsOf k (l.getD i.toNat (fK k))) off vs))else .bad
 |_=>.bad
def GQ (s id:Nat)(i j:Int)(off:Nat)(vs:List SV):Ob→OR
 | .grid k l=>bif Nat.beq s (aa k)&&Nat.ble (off+sz vs) s then Dx k id i j l (oG k (gH (cellsOf k ((l.getD i.toNat []).getD j.toNat (fK k))) off vs))else .bad
 |_=>.bad
def qI (size:Nat)(h:List Ob):SV→Option (List SV)→OR
 | .ptr id off,some vs=>bif Nat.beq (sz vs) size then GO id off vs (am h id)else .bad
 | .rp s id i off,some vs=>bif Nat.beq (sz vs) size then GP s id i off vs (am h id)else .bad
 | .gp s id i j off,some vs=>bif Nat.beq (sz vs) size then GQ s id i j off vs (am h id)else .bad
 |_,_=>.bad
def Dy:Ob→Bool
 | .grid _ _=>true
 |_=>false
def K3 (k:Tag)(nx id rid:Nat)(i:Int)(l:List (List k.T)):Option (List k.T)→OR
 |some m=>.eff True True [(id,.dead),(rid,.dead),(nx,.grid k (l.set i.toNat m)),(id,.fwd (some nx))] .any
 |none=>.bad
def GR (k:Tag):Ob→Option (List k.T)
 | .row k' l=>if h:k'=k then some (h▸l)else none
 |_=>none
def AA (nx:Nat)(h:List Ob)(id rid:Nat)(i:Int):Ob→OR
 | .grid k l=>K3 k nx id rid i l (GR k (am h rid))
 |_=>.bad
def qJ (size nx:Nat)(h:List Ob):SV→SV→OR
 | .rp s id i off,.os rid=>bif Dy (am h id)then(bif Nat.beq size 1&&Nat.beq s 1&&Nat.beq off 0&& !(Nat.beq id rid)then AA nx h id rid i (am h id)else .bad)else qI size h (.rp s id i off) (pc (.os rid))
 |a,x=>qI size h a (pc x)
def K4:SV→OR
 | .ptr id off=>.val (.ptr id off)
 | .ep l off=>.val (.ep l off)
 | .rp a b c d=>.val (.rp a b c d)
 | .gp a b c d e=>.val (.gp a b c d e)
 | .fn f first caps=>.val (.fn f first caps)
 |_=>.bad
def EQ:Option IntKind→SV→OR
 |some k,.v (.int _ n) =>.val (.v (.int k (k.wrap n)))
 |_,_=>.bad
def Dz (nx:Nat):Option (List SV)→OR
 |some l=>.eff True True [(nx,.cells l)] (.ptr nx 0)
 |none=>.bad
def GS:Option (List SV)→OR
 |some l=>.val (.agg l)
 |none=>.bad
def K5 (k:Tag):Option (List k.T)→OR
 |some xs=>.newr (.rs k xs)
 |none=>.bad
def lsS (n:Nat)(l:List SV):OR:=bif Nat.beq (sz l) n&&uk l then .newr (.ls l)else .bad
def bsT (k:Tag)(ti te:TI)(n:Nat):Option (List SV)→OR
 |some l=>bif Nat.beq te.size (aa k)&&ti.isSlice&&Nat.ble (n*te.size) 16777216&&Nat.beq (sz te.zero) te.size then K5 k (qZ k te.size n l)else .bad
 |none=>.bad
def bsU (ti te:TI)(n:Nat):Option (List SV)→OR
 |some l=>bif Nat.beq te.size 1&&ti.isSlice&&Nat.ble (n*te.size) 16777216&&Nat.beq (sz te.zero) te.size then lsS n l else .bad
 |none=>.bad
def noG:Option (Nat×Bool)→Bool
 |none=>true
 |some _=>false
def VL:Op→Bool
 | .call ⟨.value _,_,_⟩ =>true
 |_=>false
def VM:Op→Bool
 | .call ⟨.builtin .append,_,_⟩ =>true
 |_=>false
def K6:List Oper→Bool
 | [] =>false
 |o::r=>VL o.op||K6 r
def Ig:List Oper→Bool
 | [] =>false
 |o::r=>VM o.op||Ig r
def VN:Op→Bool
 | .call ⟨.builtin .clear,_,_⟩ =>true
 |_=>false
def K7:List Oper→Bool
 | [] =>false
 |o::r=>VN o.op||K7 r
def Ri:Op→Bool
 | .slice .. =>true
 |_=>false
def GU:List Oper→Bool
 | [] =>false
 | [o] =>Ri o.op
 |_::r=>GU r
def Ih:List Oper→List Nat
 | [] =>[]
 |o::r=>bif Ri o.op then o.dst.toList++Ih r else Ih r
def ER (ds:List Nat):List Operand→Bool
 | [] =>false
 | .tmp d::r=>ds.any (Nat.beq d) ||ER ds r
 |_::r=>ER ds r
def K8:Op→List Operand
 | .call ⟨.value _,args,_⟩ =>args.toList
 |_=>[]
def Rj (ds:List Nat):List Oper→Bool
 | [] =>false
 |o::r=>ER ds (K8 o.op) ||Rj ds r
def ES (ops:List Oper):Bool:=Ig ops||K7 ops||GU ops||Rj (Ih ops) ops
def VO (ops:List Oper)(g:Option (Nat×Bool)):Option (Nat×Bool):=bif Ig ops&&K6 ops then some (0,true)else g
def Rk:List (Nat×Operand)→List Operand
 | [] =>[]
 |(_,x)::r=>x::Rk r
def K9:Op→List Operand
 | .build _ parts=>Rk parts.toList
 |_=>[]
def Rl (ds:List Nat):List Oper→Bool
 | [] =>false
 |o::r=>ER ds (K9 o.op) ||Rl ds r
def VP (t:TypeId):Op→Bool
 | .buildSlice t' _ _=>Nat.beq t t'
 |_=>false
def Ii (t:TypeId):List Oper→List Nat
 | [] =>[]
 |o::r=>bif VP t o.op then o.dst.toList++Ii t r else Ii t r
def Qq:Bool:=true
def B5 (t:TypeId)(ops:List Oper)(g:Option (Nat×Bool)):Option (Nat×Bool):=bif Qq&&Rl (Ii t ops) ops then some (0,true)else VO ops g
def VQ:SV→Bool
 | .os _=>true
 |_=>false
def osL:List SV→Bool
 | [] =>false
 |s::r=>VQ s||osL r
def osV:SV→Bool
 | .os _=>true
 | .agg l=>osL l
 |_=>false
def K_:List (Nat×SV)→Bool
 | [] =>false
 |(_,s)::r=>osV s||K_ r
def bsG (ti te:TI)(n:Nat)(l:Option (List SV))(os:Bool):Option Tag→OR
 |some k=>bif os then bsU ti te n l else bsT k ti te n l
 |none=>bsU ti te n l
def Qr:List Kd→Bool
 | [.f] =>true
 |_=>false
def N7:Option Tag→Option Tag
 |some k=>bif Qr (d8 k)then none else some k
 |none=>none
def bsS (ti te:TI)(n:Nat)(parts:List (Nat×SV)):OR:=
 bif Nat.beq n 0 then(bif ti.isSlice&&parts.isEmpty then .newr .e0 else .bad)
 else bsG ti te n (lK (fun i=>some (i*te.size,te.size)) (zK n te.zero) parts) (K_ parts) (N7 te.tag)
def one {α:Type}:List α→Bool
 | [_] =>true
 |_=>false
def B6 (g:Option (Nat×Bool))(nx:Nat)(te:TI):OR→OR
 | .newr (.rs k l) =>bif(te.agg||one l)&&noG g then .eff True True [(nx,.row k l)] (.os nx)else .newr (.rs k l)
 |r=>r
def La (i:Nat):SV→OR
 | .tup l=>tD (nth l i)
 |_=>.bad
def xN (args:List SV):SV→OR
 | .fn g first caps=>.call g (first++args++caps)
 | .os id=>.yld id args
 |_=>.bad
def aQ:Nat:=140737488355328
def Lb:Ob→OR
 | .row _ l=>.asm (l.length≤aQ) (.i l.length)
 | .grid _ l=>.asm (l.length≤aQ) (.i l.length)
 |_=>.bad
def N8 (i:Int):Ob→OR
 | .grid _ l=>.asm ((l.getD i.toNat []).length≤aQ) (.i (l.getD i.toNat []).length)
 |_=>.bad
def N9 (m:Option Tag):Ob→OR
 | .mp _ _ l p=>bif m.isSome&&noE p then .val (.i l.length)else .bad
 |_=>.bad
def tE (ti:TI)(h:List Ob):List SV→OR
 | [.rs _ l] =>bif ti.isSlice then .asm (l.length≤aQ) (.i l.length)else .bad
 | [.v (.slice none 0 0)] =>bif ti.isSlice then .val (.i 0)else .bad
 | [.e0] =>bif ti.isSlice then .val (.i 0)else .bad
 | [.os id] =>bif ti.isSlice then Lb (am h id)else N9 ti.mkt (am h id)
 | [.gr id i] =>bif ti.isSlice then N8 i (am h id)else .bad
 | [.ls l] =>bif ti.isSlice then .val (.i (sz l))else .bad
 |_=>.bad
def DA:List SV→OR
 | [.v (.int k a),.v (.int _ b)] =>.val (.v (.int k (if b<a then b else a)))
 |_=>.bad
def DB:List SV→OR
 | [.v (.int k a),.v (.int _ b)] =>.val (.v (.int k (if a<b then b else a)))
 |_=>.bad
def Lc:SV→OR
 | .v (.iface t y) =>.pan (.iface t y)
 |_=>.bad
def AB (t:TypeId):SV→OR
 | .v (.int k n) =>.val (.v (.iface t (.int k n)))
 |_=>.bad
def ET (fn:Fn)(first caps:List SV):OR:=
 match fn with
 | .func f=>.val (.fn f first caps)
 |_=>.bad
def dq:Nat:=140737488355328
def Ij (a:Tag):Option Tag→Bool
 |some b=>Nat.beq (xF a) (xF b)
 |none=>false
def xO (k:Tag)(k':Tag)(l:List k'.T):Option (List k.T):=if h:k'=k then some (h▸l)else none
def JE (k:Tag):Ob→Option (List k.T)
 | .row k' l=>xO k k' l
 |_=>none
def N_ (k:Tag)(s:Nat)(lo hi:Int):Ob→Option (List k.T)
 | .row k' l=>bif Nat.beq s (aa k')then xO k k' ((l.take hi.toNat).drop lo.toNat)else none
 |_=>none
def vt (k:Tag)(h:List Ob):SV→Option (List k.T)
 | .rs k' l=>xO k k' l
 | .v (.slice none 0 0) =>some []
 | .e0=>some []
 | .os id=>JE k (am h id)
 | .vw s id lo hi=>N_ k s lo hi (am h id)
 |_=>none
def Ld (k:Tag)(nx bytes:Nat)(kill:List Up)(l:List k.T):Option (List k.T)→OR
 |some m=>.eff ((l++m).length*bytes≤dq) ((l++m).length≤aQ) (kill++[(nx,.row k (l++m))]) (.os nx)
 |none=>.bad
def ul (te:TI)(nx:Nat)(kill:List Up)(h:List Ob)(src:SV):Ob→OR
 | .row k l=>bif Nat.beq te.size (aa k)&&Nat.beq (sz te.zero) te.size&&Nat.ble 1 te.bytes then Ld k nx te.bytes kill l (vt k h src)else .bad
 |_=>.bad
def AC (k:Tag)(nx bytes id2:Nat)(kill:List Up)(l:List (List k.T)):Option (List k.T)→OR
 |some m=>.eff ((l++[m]).length*bytes≤dq) ((l++[m]).length≤aQ) (kill++[(id2,.dead),(nx,.grid k (l++[m]))]) (.os nx)
 |none=>.bad
def zl (nx bytes:Nat)(h:List Ob)(id2:Nat)(kill:List Up):Ob→OR
 | .grid k l=>AC k nx bytes id2 kill l (JE k (am h id2))
 |_=>.bad
def Le (nx bytes id2:Nat):Ob→OR
 | .row k m=>AC k nx bytes id2 [] [] (some m)
 |_=>.bad
def um (te:TI)(nx:Nat)(h:List Ob)(src:SV):Option Tag→OR
 |some k=>ul te nx [] h src (.row k [])
 |none=>.bad
def Lf (te:TI)(id:Nat):Ob→OR
 | .row k l=>bif Nat.beq te.size (aa k)&&Nat.beq (sz te.zero) te.size&&Nat.ble 1 te.bytes then .eff ((l++l).length*te.bytes≤dq) ((l++l).length≤aQ) [(id,.fz k l)] (.rs k (l++l))else .bad
 |_=>.bad
def ny (te:TI)(nx:Nat)(h:List Ob):List SV→OR
 | [.os id,.ls [.os id2]] =>bif Nat.beq te.size 1&&Nat.beq (sz te.zero) 1&&Nat.ble 1 te.bytes&& !(Nat.beq id id2)then zl nx te.bytes h id2 [(id,.dead)] (am h id)else .bad
 | [.v (.slice none 0 0),.ls [.os id2]] =>bif Nat.beq te.size 1&&Nat.beq (sz te.zero) 1&&Nat.ble 1 te.bytes then Le nx te.bytes id2 (am h id2)else .bad
 | [.os id,.os id2] =>bif Nat.beq id id2 then Lf te id (am h id)else ul te nx [(id,.dead)] h (.os id2) (am h id)
 | [.os id,src] =>ul te nx [(id,.dead)] h src (am h id)
 | [.v (.slice none 0 0),src] =>um te nx h src te.tag
 | [.e0,src] =>um te nx h src te.tag
 |_=>.bad
def AD (k:Tag)(l:List k.T)(lo hi:Int):List k.T:=if hi.toNat≤lo.toNat then l else l.take lo.toNat++List.replicate (hi.toNat - lo.toNat) (fK k)++l.drop hi.toNat
def Rm (te:TI)(s id:Nat)(lo hi:Int):Ob→OR
 | .row k l=>bif Nat.beq s (aa k)&&Ij k te.tag then .eff True True [(id,.row k (AD k l lo hi))] .any else .bad
 |_=>.bad
def xa (ti te:TI)(h:List Ob):List SV→OR
 | [.vw s id lo hi] =>bif ti.isSlice then Rm te s id lo hi (am h id)else .bad
 |_=>.bad
def mkT (nx:Nat)(n c:Int)(te:TI):Option Tag→OR
 |some k=>.eff (n=c∧0≤n∧n*te.bytes≤dq) (n≤aQ) [(nx,.row k (List.replicate n.toNat (fK k)))] (.os nx)
 |none=>.bad
def mkS (nx:Nat)(te:TI):SV→SV→OR
 | .v (.int .i64 n),.v (.int .i64 c) =>mkT nx n c te te.tag
 |_,_=>.bad
def Lg:List SV→Bool
 | [.v (.slice none 0 0)] =>true
 |_=>false
def Oa (nx:Nat)(n c:Int)(te:TI):Option Tag→OR
 |some k=>bif Nat.beq te.size 1&&Lg te.zero&&Nat.ble 1 te.bytes then .eff (n=c∧0≤n∧n*te.bytes≤dq) (n≤aQ) [(nx,.grid k (List.replicate n.toNat []))] (.os nx)else .bad
 |none=>.bad
def B7 (nx:Nat)(te tr:TI):SV→SV→OR
 | .v (.int .i64 n),.v (.int .i64 c) =>Oa nx n c te tr.tag
 |_,_=>.bad
def bnd (d:Int):Option SV→Option Int
 |none=>some d
 |some (.v (.int _ n)) =>some n
 |_=>none
def Lh (k:Tag)(l:List k.T):Option Int→Option Int→OR
 |some lo,some hi=>.chk (0≤lo∧lo≤hi∧hi≤(l.length:Int)) (.rs k ((l.take hi.toNat).drop lo.toNat))
 |_,_=>.bad
def Oc (id nx:Nat)(k:Tag)(l:List k.T):Option Int→Option Int→OR
 |some lo,some hi=>.eff (0≤lo∧lo≤hi∧hi≤(l.length:Int)) True [(id,.dead),(nx,.row k ((l.take hi.toNat).drop lo.toNat))] (.os nx)
 |_,_=>.bad
def Li (esz id nx:Nat)(lo hi:Option SV):Ob→OR
 | .row k l=>bif Nat.beq esz (aa k)then Oc id nx k l (bnd 0 lo) (bnd l.length hi)else .bad
 |_=>.bad
def Lj (esz id n:Nat):Option Int→OR
 |some a=>.chk (0≤a∧a≤(n:Int)) (.vw esz id a n)
 |none=>.bad
def Ik (esz id:Nat)(lo:Option SV):Ob→OR
 | .row k l=>bif Nat.beq esz (aa k)then Lj esz id l.length (bnd 0 lo)else .bad
 |_=>.bad
def mY (ti:TI)(esz nx:Nat)(h:List Ob)(lo hi:Option SV)(vq:Bool):SV→OR
 | .rs k l=>bif ti.isSlice&&Nat.beq esz (aa k)then Lh k l (bnd 0 lo) (bnd l.length hi)else .bad
 | .os id=>bif ti.isSlice then(bif vq then Ik esz id lo (am h id)else Li esz id nx lo hi (am h id))else .bad
 |_=>.bad
def Cy (ti:TI):Option SV→Option SV→SV→SV→OR
 |none,some (.v (.int .i64 0)),.v (.int .i64 0),.v (.slice none 0 0) =>bif ti.isSlice then .val (.v (.slice none 0 0))else .bad
 |_,_,_,_=>.bad
def AE (kk vk:Tag)(l:List (kk.T×vk.T))(ok:Bool):Option kk.T→OR
 |some x=>bif ok then .val (.tup [svT vk (fZ kk vk l x),.b (Ie kk vk l x)])else .val (svT vk (fZ kk vk l x))
 |none=>.bad
def jU (a:Tag):Option Tag→Bool
 |some b=>Nat.beq (xF a) (xF b)
 |none=>false
def Cz {α:Type}:Option α→Bool
 |none=>true
 |some _=>false
def EU (ti:TI)(key:SV)(ok:Bool):Ob→OR
 | .mp kk vk l pend=>bif jU kk ti.mkt&&jU vk ti.mvt&&(!ok||noE pend)then AE kk vk l ok (unT kk key)else .bad
 |_=>.bad
def Il (key:SV)(ok:Bool):Option Tag→Option Tag→OR
 |some kk,some vk=>AE kk vk [] ok (unT kk key)
 |_,_=>.bad
def sD (ti:TI)(h:List Ob)(ok:Bool)(key:SV):SV→OR
 | .os id=>EU ti key ok (am h id)
 | .rm kk vk l=>bif jU kk ti.mkt&&jU vk ti.mvt then AE kk vk l ok (unT kk key)else .bad
 | .v (.map none) =>Il key ok ti.mkt ti.mvt
 |_=>.bad
def Ro (id:Nat)(kk vk:Tag)(l:List (kk.T×vk.T)):Option kk.T→Option vk.T→OR
 |some x,some y=>.eff True True [(id,.mp kk vk (lr kk vk l x y) none)] .any
 |_,_=>.bad
def Rp (ti:TI)(id:Nat)(key v:SV):Ob→OR
 | .mp kk vk l p=>bif jU kk ti.mkt&&jU vk ti.mvt&&noE p then Ro id kk vk l (unT kk key) (unT vk v)else .bad
 |_=>.bad
def zL (ti:TI)(h:List Ob)(key v:SV):SV→OR
 | .os id=>Rp ti id key v (am h id)
 |_=>.bad
def JF (id nx:Nat)(kk vk:Tag)(l:List (kk.T×vk.T)):Option kk.T→OR
 |some x=>.eff True True [(nx,.fwd none),(id,.mp kk vk l (some (nx,some x)))] (.tup [svT vk (fZ kk vk l x),.os nx])
 |none=>.bad
def JG (ti:TI)(id nx:Nat)(key:SV):Ob→OR
 | .mp kk vk l p=>bif jU kk ti.mkt&&jU vk ti.mvt&&noE p then JF id nx kk vk l (unT kk key)else .bad
 |_=>.bad
def wD (ti:TI)(nx:Nat)(h:List Ob)(key:SV):SV→OR
 | .os id=>JG ti id nx key (am h id)
 |_=>.bad
def Rq (id:Nat)(kk vk:Tag)(l:List (kk.T×vk.T))(x:kk.T):Option vk.T→OR
 |some y=>.eff True True [(id,.mp kk vk (lr kk vk l x y) none)] .any
 |none=>.bad
def Od (ti:TI)(id n:Nat)(v:SV):Ob→OR
 | .mp kk vk l (some (n',some x)) =>bif jU kk ti.mkt&&jU vk ti.mvt&&Nat.beq n' n then Rq id kk vk l x (unT vk v)else .bad
 |_=>.bad
def DC (ti:TI)(h:List Ob)(v:SV):SV→SV→OR
 | .os id,.os n=>Od ti id n v (am h id)
 |_,_=>.bad
def Rr (id:Nat)(kk vk:Tag)(l:List (kk.T×vk.T)):Option kk.T→OR
 |some x=>.eff True True [(id,.mp kk vk (xH kk vk l x) none)] .any
 |none=>.bad
def Rt (ti:TI)(id:Nat)(key:SV):Ob→OR
 | .mp kk vk l p=>bif jU kk ti.mkt&&jU vk ti.mvt&&noE p then Rr id kk vk l (unT kk key)else .bad
 |_=>.bad
def xb (ti:TI)(h:List Ob):List SV→OR
 | [.os id,key] =>Rt ti id key (am h id)
 |_=>.bad
def mmR (nx:Nat):Option Tag→Option Tag→OR
 |some kk,some vk=>.eff True True [(nx,.mp kk vk [] none)] (.os nx)
 |_,_=>.bad
def zsO (z:List SV):OR:=.val (.tup [.agg z,.b false])
def taS (t:TypeId)(ok:Bool)(ti:TI):SV→OR
 | .v (.iface t' y) =>bif ti.iface then .bad else bif Nat.beq t' t then(bif ok then .val (.tup [.v y,.b true])else .val (.v y))else .bad
 |_=>.bad
def Oe (ti:TI)(nx id:Nat):Ob→OR
 | .mp kk vk l p=>bif jU kk ti.mkt&&jU vk ti.mvt&&noE p then .eff True True [(nx,.mi (some id) l.length (List.range l.length) none),(id,.mp kk vk l (some (nx,none)))] (.ptr nx 0)else .bad
 |_=>.bad
def AF (ti:TI)(nx:Nat)(h:List Ob):SV→OR
 | .os id=>Oe ti nx id (am h id)
 |_=>.bad
def Lk:SV→OR
 | .ptr id 0=>.nxt id
 |_=>.bad
def Ll (id n j:Nat):Ob→OR
 | .mp kk vk l (some (it,none)) =>bif Nat.beq it id then .chk (n=l.length∧j<n) (.tup [svT kk (l.getD j (fK kk,fK vk)).1,svT vk (l.getD j (fK kk,fK vk)).2])else .bad
 |_=>.bad
def Im (h:List Ob)(id:Nat):Ob→OR
 | .mi (some mid) n _ (some j) =>Ll id n j (am h mid)
 |_=>.bad
def zm (h:List Ob):SV→OR
 | .ptr id 0=>Im h id (am h id)
 |_=>.bad
def opS (cx:Cx):Op→OR
 | .move x=>.val (val cx x)
 | .assign x=>.val (val cx x)
 | .pick c a b=>Ax a b (val cx c) (kC cx.ops cx.g c true (raw cx.st.t a)) (kC cx.ops cx.g c false (raw cx.st.t b))
 | .alloc t=>aF cx.ts t fun ti=>Dz cx.nx (some ti.zero)
 | .box _ x=>Dz cx.nx (pc (val cx x))
 | .build t parts=>aF cx.ts t fun ti=>
  bif ti.isArr then aF cx.ts ti.elem fun te=>GS (lK (fun i=>some (i*te.size,te.size)) ti.zero (gI cx parts.toList))
  else bif ti.agg then GS (lK (fun i=>(nth ti.fields i).map fun f=>(f.1,f.2.1)) ti.zero (gI cx parts.toList))
  else .bad
 | .buildSlice t n parts=>aF cx.ts t fun ti=>aF cx.ts ti.elem fun te=>B6 (B5 t cx.ops cx.g) cx.nx te (bsS ti te n (gI cx parts.toList))
 | .load t a=>aF cx.ts t fun ti=>qh ti cx.st.h (val cx a)
 | .store t a x=>aF cx.ts t fun ti=>qJ ti.size cx.nx cx.st.h (val cx a) (val cx x)
 | .nilCheck x=>K4 (val cx x)
 | .binOp op t x y _=>Dv cx.ts op t (val cx x) (val cx y)
 | .unOp op _ x=>unS op (val cx x)
 | .convert src dst x=>aF cx.ts src fun _=>aF cx.ts dst fun ti=>EQ ti.int (val cx x)
 | .makeFunc fn first captured=>ET fn (cD cx first.toList) (cD cx captured.toList)
 | .fieldAddr t x f=>aF cx.ts t fun ti=>match nth ti.fields f with|some (o,n,_) =>bif Nat.ble 1 n then xM o (val cx x)else .bad|none=>.bad
 | .field t x f=>aF cx.ts t fun ti=>rI (nth ti.fields f) (xI (val cx x))
 | .indexAddr t x i=>aF cx.ts t fun ti=>aF cx.ts ti.elem fun te=>gY ti te.size cx.st.h (val cx x) (val cx i)
 | .extract x i=>La i (val cx x)
 | .panic x=>Lc (val cx x)
 | .makeInterface t x=>aF cx.ts t fun ti=>bif ti.iface then .bad else AB t (val cx x)
 | .makeSlice t n c=>aF cx.ts t fun ti=>aF cx.ts ti.elem fun te=>bif ti.isSlice then(bif te.isSlice then aF cx.ts te.elem fun tr=>B7 cx.nx te tr (val cx n) (val cx c)else mkS cx.nx te (val cx n) (val cx c))else .bad
 | .slice t x lo hi none=>aF cx.ts t fun ti=>aF cx.ts ti.elem fun te=>mY ti te.size cx.nx cx.st.h (oE cx lo) (oE cx hi) (Cz hi&&ES cx.ops) (val cx x)
 | .slice t x lo hi (some m) =>aF cx.ts t fun ti=>aF cx.ts ti.elem fun _=>Cy ti (oE cx lo) (oE cx hi) (val cx m) (val cx x)
 | .makeMap t none=>aF cx.ts t fun ti=>mmR cx.nx ti.mkt ti.mvt
 | .lookup t m k ok=>aF cx.ts t fun ti=>sD ti cx.st.h ok (val cx k) (val cx m)
 | .mapUpdate t m k v=>aF cx.ts t fun ti=>zL ti cx.st.h (val cx k) (val cx v) (val cx m)
 | .insert t m k v=>aF cx.ts t fun ti=>zL ti cx.st.h (val cx k) (val cx v) (val cx m)
 | .mapEntry t m k=>aF cx.ts t fun ti=>wD ti cx.nx cx.st.h (val cx k) (val cx m)
 | .entryStore t m s v=>aF cx.ts t fun ti=>DC ti cx.st.h (val cx v) (val cx m) (val cx s)
 | .range t m=>aF cx.ts t fun ti=>AF ti cx.nx cx.st.h (val cx m)
 | .next it false=>Lk (val cx it)
 | .entry it=>zm cx.st.h (val cx it)
 | .typeAssert x _ t ok=>aF cx.ts t fun ti=>taS t ok ti (val cx x)
 | .call ⟨.value f,args,_⟩ =>xN (cD cx args.toList) (val cx f)
 | .call ⟨.builtin .len,args,tys⟩ =>match tys.toList with| [t] =>aF cx.ts t fun ti=>tE ti cx.st.h (cD cx args.toList) |_=>.bad
 | .call ⟨.builtin .delete,args,tys⟩ =>match tys.toList with|t::_=>aF cx.ts t fun ti=>xb ti cx.st.h (cD cx args.toList) |_=>.bad
 | .call ⟨.builtin .clear,args,tys⟩ =>match tys.toList with| [t] =>aF cx.ts t fun ti=>aF cx.ts ti.elem fun te=>xa ti te cx.st.h (cD cx args.toList) |_=>.bad
 | .call ⟨.builtin .min,args,_⟩ =>DA (cD cx args.toList)
 | .call ⟨.builtin .max,args,_⟩ =>DB (cD cx args.toList)
 | .call ⟨.builtin .append,args,tys⟩ =>match tys.toList with| [t,t2] =>aF cx.ts t fun ti=>aF cx.ts t2 fun ti2=>aF cx.ts ti.elem fun te=>bif ti.isSlice&&ti2.isSlice then ny te cx.nx cx.st.h (cD cx args.toList)else .bad|_=>.bad
 |_=>.bad
structure Fp where
 all:List Nat
 rd:List Nat
 wk:List Nat
 tc:List Nat
 wt:List Nat
def fL:SV→List Nat
 | .ptr id _=>[id]
 | .os id=>[id]
 | .rp _ id _ _=>[id]
 | .gr id _=>[id]
 | .gp _ id _ _ _=>[id]
 | .vw _ id _ _=>[id]
 |_=>[]
def DD:SV→List Nat
 | .ls [.os id] =>[id]
 |s=>fL s
def pd:List SV→List Nat
 | [] =>[]
 |s::r=>DD s++pd r
def Lm:Ob→List Nat
 | .mi (some mid) _ _ _=>[mid]
 |_=>[]
def Ln (h:List Ob):SV→List Nat
 | .ptr id _=>Lm (am h id)
 |_=>[]
def fpO (cx:Cx):Op→List Nat×List Nat
 | .range _ m=>(fL (val cx m),[])
 | .entry it=>(fL (val cx it)++Ln cx.st.h (val cx it),[])
 | .load _ a=>(fL (val cx a),[])
 | .store _ a x=>(fL (val cx a)++fL (val cx x),[])
 | .indexAddr _ x _=>(fL (val cx x),[])
 | .slice _ x _ _ _=>(fL (val cx x),[])
 | .lookup _ m _ ok=>bif ok then(fL (val cx m),[])else([],fL (val cx m))
 | .mapUpdate _ m _ _=>(fL (val cx m),[])
 | .insert _ m _ _=>(fL (val cx m),[])
 | .mapEntry _ m _=>(fL (val cx m),[])
 | .entryStore _ m _ _=>(fL (val cx m),[])
 | .call ⟨.builtin .len,args,_⟩ =>(pd (cD cx args.toList),[])
 | .call ⟨.builtin .append,args,_⟩ =>(pd (cD cx args.toList),[])
 | .call ⟨.builtin .delete,args,_⟩ =>(pd (cD cx args.toList),[])
 | .call ⟨.builtin .clear,args,_⟩ =>(pd (cD cx args.toList),[])
 |_=>([],[])
def eY:List Up→List Nat
 | [] =>[]
 |(id,_)::r=>id::eY r
def sE:Op→Bool
 | .mapEntry .. =>true
 |_=>false
def fpU (o:Op)(x:List Nat×List Nat)(all:List Nat)(ups:List Up):Fp:=
 bif sE o then ⟨all,x.1,x.2,[],eY ups⟩else ⟨all,x.1,x.2,eY ups,[]⟩
def EV (as:List Nat):List Edge→Nat
 | [] =>0
 |e::r=>bif Region.binds .any e then Nat.lor (Nat.lor ((nth as e.on).getD 0) (Nat.shiftLeft 1 e.on)) (EV as r)else EV as r
def yL:List Oper→List Nat→List Nat
 | [],as=>as
 |o::r,as=>yL r (as++[EV as o.after.toList])
def rJ (as:List Nat)(i j:Nat):Bool:=Nat.testBit ((nth as i).getD 0) j
def zM (n:Nat):List Nat→Bool
 | [] =>false
 |m::r=>bif Nat.beq m n then true else zM n r
def sF:List Nat→List Nat→Bool
 | [],_=>false
 |a::r,l=>bif zM a l then true else sF r l
def sG (i e:Fp):Bool:=
 sF i.all e.tc||sF i.all e.wt||sF i.rd e.tc||sF i.rd e.wt||sF i.wk e.tc||sF i.tc e.tc||sF i.tc e.wt||sF i.wt e.tc||sF i.wt e.wt
def EW (as:List Nat)(i:Nat)(x:Fp):Nat→List Fp→Bool
 |_,[] =>true
 |j,y::r=>(Nat.beq i j|| !(sG x y) ||(Nat.blt j i&&rJ as i j) ||(Nat.blt i j&&rJ as j i))&&EW as i x (j+1) r
def In (as:List Nat)(b:Nat)(all:List Fp):Nat→List Fp→Bool
 |_,[] =>true
 |i,x::r=>EW as i x b all&&In as b all (i+1) r
def Qs (ops:List Oper)(b:Nat)(fps:List Fp):Bool:=In (yL ops []) b fps b fps
def AG:List Fp→Bool
 | [] =>true
 |x::r=>x.tc.isEmpty&&x.wt.isEmpty&&AG r
def rK (ops:List Oper)(b:Nat)(fps:List Fp):Prop:=bif AG fps then True else Qs ops b fps=true
def DE (as:List Nat)(c:Nat):Nat→List Oper→Bool
 |_,[] =>true
 |i,_::r=>(Nat.beq i c||(Nat.blt i c&&rJ as c i) ||(Nat.blt c i&&rJ as i c))&&DE as c (i+1) r
def AH (ops:List Oper)(c:Nat):Bool:=DE (yL ops []) c 0 ops
def dv (ops:List Oper)(t:List (Nat×SV)):Nat→Nat×Bool→Prop
 |0,_=>True
 |n+1,(j,want) =>match (nth ops j).bind (·.dst)with
  |some d=>match lk d t with
   | .v (.bool x) =>x=want
   | .gd j' b (.v (.bool x)) =>dv ops t n (j',b)∧x=want
   |_=>True
  |none=>True
def gq (ops:List Oper)(t:List (Nat×SV)):Nat→Nat×Bool→Prop
 |0,_=>True
 |n+1,(j,want) =>match (nth ops j).bind (·.dst)with
  |some d=>match lk d t with
   | .v (.bool x) =>¬x=want
   | .gd j' b (.v (.bool x)) =>gq ops t n (j',b)∨¬x=want
   |_=>True
  |none=>True
def un (ops:List Oper)(t:List (Nat×SV)):Nat→Nat×Bool→Prop
 |0,_=>False
 |n+1,(j,want) =>match (nth ops j).bind (·.dst)with
  |some d=>match lk d t with
   | .v (.bool x) =>¬x=want
   | .gd j' b (.v (.bool x)) =>un ops t n (j',b)∨¬x=want
   |_=>False
  |none=>False
def Of (szt off:Nat)(i:Int):Ob→SV
 | .row k l=>bif Nat.beq szt (aa k)then .ep (cellsOf k (l.getD i.toNat (fK k))) off else .any
 |_=>.any
def Io (szt off:Nat)(i j:Int):Ob→SV
 | .grid k l=>bif Nat.beq szt (aa k)then .ep (cellsOf k ((l.getD i.toNat []).getD j.toNat (fK k))) off else .any
 |_=>.any
def Lo (i:Int):Ob→SV
 | .grid k l=>.rs k (l.getD i.toNat [])
 |_=>.any
def frz:Ob→SV
 | .row k l=>.rs k l
 | .mp kk vk l p=>bif noE p then .rm kk vk l else .any
 | .grid k l=>EF k l
 | .fz k l=>.rs k l
 |_=>.any
def JH (f:SV→SV)(off:Nat):Ob→SV
 | .cells l=>.ep (l.map f) off
 |_=>.any
def Og (s:Nat)(lo hi:Int):Ob→SV
 | .row k l=>bif Nat.beq s (aa k)then .rs k ((l.take hi.toNat).drop lo.toNat)else .any
 |_=>.any
def fe (h:List Ob):Nat→SV→SV
 |_,.v x=>.v x
 |_,.rs k l=>.rs k l
 |_,.e0=>.e0
 |_,.rm k k2 l=>.rm k k2 l
 |_,.os id=>frz (am h id)
 |_,.vw s id lo hi=>Og s lo hi (am h id)
 |_,.rp s id i off=>bif Nat.beq s 0 then .any else Of s off i (am h id)
 |_,.gp s id i j off=>bif Nat.beq s 0 then .any else Io s off i j (am h id)
 |_,.gr id i=>Lo i (am h id)
 |n+1,.ptr id off=>JH (fe h n) off (am h id)
 |n+1,.ep l off=>.ep (l.map (fe h n)) off
 |n+1,.ls l=>.ls (l.map (fe h n))
 |n+1,.agg l=>.agg (l.map (fe h n))
 |n+1,.tup l=>.tup (l.map (fe h n))
 |n+1,.fn f first caps=>.fn f (first.map (fe h n)) (caps.map (fe h n))
 |_,_=>.any
def JI (f:SV→List Nat):Ob→List Nat
 | .cells l=>l.flatMap f
 |_=>[]
def iN (h:List Ob):Nat→SV→List Nat
 |_,.os id=>[id]
 |_,.rp _ id _ _=>[id]
 |_,.gp _ id _ _ _=>[id]
 |_,.gr id _=>[id]
 |_,.vw _ id _ _=>[id]
 |n+1,.ptr id _=>id::JI (iN h n) (am h id)
 |n+1,.ep l _=>l.flatMap (iN h n)
 |n+1,.ls l=>l.flatMap (iN h n)
 |n+1,.agg l=>l.flatMap (iN h n)
 |n+1,.tup l=>l.flatMap (iN h n)
 |n+1,.fn _ first caps=>first.flatMap (iN h n)++caps.flatMap (iN h n)
 |_,_=>[]
def ungd:List (Nat×SV)→List (Nat×SV)
 | [] =>[]
 |(d,.gd ..)::r=>(d,.any)::ungd r
 |x::r=>x::ungd r
def cm:Nat→SV→Bool
 |_,.v _=>true
 |_,.rs _ _=>true
 |_,.rm _ _ _=>true
 |_,.e0=>true
 |_,.any=>true
 |n+1,.ep l _=>l.all (cm n)
 |n+1,.ls l=>l.all (cm n)
 |n+1,.agg l=>l.all (cm n)
 |n+1,.tup l=>l.all (cm n)
 |n+1,.fn _ l m=>l.all (cm n)&&m.all (cm n)
 |_,_=>false
def gS:Nat→SV→Bool
 |_,.v _=>true
 |_,.nw k _=>Nat.beq (rank k) 0
 |_,.nm k k2 _=>Nat.beq (rank k) 0&&Nat.beq (rank k2) 0
 |_,.ng k _=>Nat.beq (rank k) 0
 |n+1,.agg l=>l.all (gS n)
 |n+1,.tup l=>l.all (gS n)
 |_,_=>false
def aJ:Nat→SV→List Ob
 |_,.nw k l=>[.row k l]
 |_,.nm k k2 l=>[.mp k k2 l none]
 |_,.ng k l=>[.grid k l]
 |n+1,.agg l=>l.flatMap (aJ n)
 |n+1,.tup l=>l.flatMap (aJ n)
 |_,_=>[]
def qK (f:Nat→SV→SV)(c:SV→Nat):Nat→List SV→List SV
 |_,[] =>[]
 |b,x::r=>f b x::qK f c (b+c x) r
def g9:Nat→Nat→SV→SV
 |_,b,.nw _ _=>.os b
 |_,b,.nm _ _ _=>.os b
 |_,b,.ng _ _=>.os b
 |n+1,b,.agg l=>.agg (qK (g9 n) (fun s=>(aJ n s).length) b l)
 |n+1,b,.tup l=>.tup (qK (g9 n) (fun s=>(aJ n s).length) b l)
 |_,_,s=>s
def fq:Nat→SV→List Nat
 |_,.ptr id _=>[id]
 |_,.os id=>[id]
 |_,.rp _ id _ _=>[id]
 |_,.gr id _=>[id]
 |_,.gp _ id _ _ _=>[id]
 |_,.vw _ id _ _=>[id]
 |n+1,.ep l _=>l.flatMap (fq n)
 |n+1,.ls l=>l.flatMap (fq n)
 |n+1,.agg l=>l.flatMap (fq n)
 |n+1,.tup l=>l.flatMap (fq n)
 |n+1,.fn _ l m=>l.flatMap (fq n)++m.flatMap (fq n)
 |n+1,.gd _ _ s=>fq n s
 |_,_=>[]
def Lp:Ob→List Nat
 | .cells l=>l.flatMap (fq 3)
 |_=>[]
def reach (h:List Ob):Nat→List Nat→List Nat→List Nat
 |0,_,acc=>acc
 |_+1,[],acc=>acc
 |n+1,id::todo,acc=>bif zM id acc then reach h n todo acc else reach h n (Lp (am h id)++todo) (acc++[id])
def wE (id:Nat):List Nat→Option Nat
 | [] =>none
 |a::r=>bif Nat.beq a id then some 0 else(wE id r).map (· +1)
def xP (f:Nat→SV):Option Nat→SV
 |some k=>f k
 |none=>.any
def ren (m:Nat→Option Nat):Nat→SV→SV
 |_,.ptr id off=>xP (fun k=>.ptr k off) (m id)
 |_,.os id=>xP (fun k=>.os k) (m id)
 |_,.rp s id i off=>xP (fun k=>.rp s k i off) (m id)
 |_,.gr id i=>xP (fun k=>.gr k i) (m id)
 |_,.gp s id i j off=>xP (fun k=>.gp s k i j off) (m id)
 |_,.vw s id lo hi=>xP (fun k=>.vw s k lo hi) (m id)
 |n+1,.ep l o=>.ep (l.map (ren m n)) o
 |n+1,.ls l=>.ls (l.map (ren m n))
 |n+1,.agg l=>.agg (l.map (ren m n))
 |n+1,.tup l=>.tup (l.map (ren m n))
 |n+1,.fn f l l2=>.fn f (l.map (ren m n)) (l2.map (ren m n))
 |_,.any=>.any
 |_,.v x=>.v x
 |_,.e0=>.e0
 |_,.rs k l=>.rs k l
 |_,.rm k k2 l=>.rm k k2 l
 |_,_=>.any
def GV (kk vk:Tag)(l:List (kk.T×vk.T)):Option kk.T→Option Nat→Ob
 |p,some k=>.mp kk vk l (some (k,p))
 |some _,none=>.fwd none
 |none,none=>.mp kk vk l none
def uo (m:Nat→Option Nat):Ob→Ob
 | .cells l=>.cells (l.map (ren m 3))
 | .mi mid n left cur=>.mi (mid.bind m) n left cur
 | .fwd n=>.fwd (n.bind m)
 | .mp kk vk l (some (i,p)) =>GV kk vk l p (m i)
 |o=>o
def inN (ids:List Nat)(i:Nat):Option Nat:=wE i ids
def ru (h:List Ob)(ids:List Nat):List Ob:=ids.map fun id=>uo (inN ids) (am h id)
def q_ (ids:List Nat)(b:Nat)(k:Nat):Option Nat:=match nth ids k with|some id=>some id|none=>some (b+(k - ids.length))
def jX (ids:List Nat)(b:Nat)(k:Nat):Nat:=match nth ids k with|some id=>id|none=>b+(k - ids.length)
def mQ (ids:List Nat)(b:Nat)(h:List Ob):Nat→List Ob→List Ob
 |_,[] =>h
 |k,o::r=>mQ ids b (bo h (jX ids b k) (uo (q_ ids b) o)) (k+1) r
def GW (ids:List Nat)(d:Option Nat)(st:St)(K:St→Prop)(Z:Value→St→Prop):Rs→Prop
 | .ret s h=>K (St.put ⟨st.t,mQ ids st.h.length st.h 0 h⟩ d (ren (q_ ids st.h.length) 3 s))
 | .pan x h=>Z x ⟨ungd st.t,mQ ids st.h.length st.h 0 h⟩
def JJ (ids:List Nat)(g:Nat×Bool)(d:Option Nat)(st:St)(K:St→Prop)(Z:Value→St→Prop):Rs→Prop
 | .ret s h=>K (St.put ⟨st.t,mQ ids st.h.length st.h 0 h⟩ d (.gd g.1 g.2 (ren (q_ ids st.h.length) 3 s)))
 | .pan x h=>Z x ⟨ungd st.t,mQ ids st.h.length st.h 0 h⟩
def xQ (ids:List Nat)(d:Option Nat)(st:St)(K:St→Prop)(Z:Value→St→Prop):Option HCon→Prop
 |some c=>c.pre∧∀ r,c.post r→GW ids d st K Z (c.res r)
 |none=>False
def xc (ids:List Nat)(ops:List Oper)(g:Nat×Bool)(d:Option Nat)(st:St)(K:St→Prop)(Z:Value→St→Prop):Option HCon→Prop
 |some c=>(dv ops st.t ops.length g→c.pre∧∀ r,c.post r→JJ ids g d st K Z (c.res r))∧(gq ops st.t ops.length g→K (st.put d (.gd g.1 g.2 .any)))
 |none=>un ops st.t ops.length g∧K (st.put d (.gd g.1 g.2 .any))
def vv (np:Bool)(ids:List Nat)(d:Option Nat)(st:St)(K:St→Prop)(Z:Value→St→Prop)(c:Option HCon):Option Con→Prop
 |some (.det p s) =>bif np||gS 3 s then(p∧K (St.put ⟨st.t,st.h++aJ 3 s⟩ d (g9 3 st.h.length s)))else xQ ids d st K Z c
 |some (.rel _ pre post out) =>pre∧(bif np then ∀ r,post r→K (St.put ⟨st.t,st.h++aJ 3 (out r)⟩ d (g9 3 st.h.length (out r)))else False)
 |some (.may ok s x) =>bif np||gS 3 s then(ok=true→K (St.put ⟨st.t,st.h++aJ 3 s⟩ d (g9 3 st.h.length s)))∧(ok=false→Z x ⟨ungd st.t,st.h⟩)else False
 |none=>xQ ids d st K Z c
def AI (np:Bool)(ids:List Nat)(ops:List Oper)(g:Nat×Bool)(d:Option Nat)(st:St)(K:St→Prop)(Z:Value→St→Prop)(c:Option HCon):Option Con→Prop
 |some (.det p s) =>(dv ops st.t ops.length g→p)∧(bif(np||gS 3 s)&&(aJ 3 s).isEmpty then K (st.put d (.gd g.1 g.2 s))else False)
 |none=>xc ids ops g d st K Z c
 |_=>False
def GX (id:Nat)(d:Option Nat)(st:St)(K:St→Prop):Option YCon→Prop
 |some c=>c.pre∧∀ r,c.post r→K (St.put ⟨st.t,bo st.h id (.ab (c.res r).2)⟩ d (.b (c.res r).1))
 |none=>False
def EX (id:Nat)(ops:List Oper)(g:Nat×Bool)(d:Option Nat)(st:St)(K:St→Prop):Option YCon→Prop
 |some c=>(dv ops st.t ops.length g→c.pre∧∀ r,c.post r→K (St.put ⟨st.t,bo st.h id (.ab (c.res r).2)⟩ d (.gd g.1 g.2 (.b (c.res r).1))))∧(gq ops st.t ops.length g→K (st.put d (.gd g.1 g.2 .any)))
 |none=>False
def DF (G:Cons)(args:List SV):Ob→Option YCon
 | .ab r=>G.y args r
 |_=>none
def Lq (id mid n:Nat)(left:List Nat)(d:Option Nat)(st:St)(next:St→Prop):Ob→Prop
 | .mp kk vk l (some (it,none)) =>(it=id∧n=l.length)∧(left=[]→next (st.put d (.tup [.v (.bool false)])))∧
   ∀ j,j∈left→next (St.put ⟨st.t,bo st.h id (.mi (some mid) n (left.erase j) (some j))⟩ d (.tup [.v (.bool true),svT kk (l.getD j (fK kk,fK vk)).1,svT vk (l.getD j (fK kk,fK vk)).2]))
 |_=>False
def Oh (id:Nat)(d:Option Nat)(st:St)(next:St→Prop):Ob→Prop
 | .mi (some mid) n left _=>Lq id mid n left d st next (am st.h mid)
 |_=>False
def lL (G:Cons)(d:Option Nat)(st:St)(next:St→Prop)(Z:Value→St→Prop):OR→Prop
 | .val s=>next (st.put d s)
 | .chk c s=>c∧next (st.put d s)
 | .asm c s=>c→next (st.put d s)
 | .newr s=>next (st.put d s)
 | .eff c a ups s=>c∧(a→next (St.put ⟨st.t,aU st.h ups⟩ d s))
 | .call f args=>vv (args.all (cm 3)) (reach st.h 64 (args.flatMap (fq 3)) []) d st next Z (G.o f (args.map (ren (inN (reach st.h 64 (args.flatMap (fq 3)) [])) 6)) (ru st.h (reach st.h 64 (args.flatMap (fq 3)) []))) (G.p f (args.map (fe st.h 6)))
 | .yld id args=>bif args.all (cm 3)then GX id d st next (DF G args (am st.h id))else False
 | .nxt id=>Oh id d st next (am st.h id)
 | .amb p=>∀ b,p b→next (st.put d (.v (.bool b)))
 | .pan x=>Z x ⟨ungd st.t,st.h⟩
 | .bad=>False
def stepG (G:Cons)(ops:List Oper)(g:Nat×Bool)(d:Option Nat)(st:St)(next:St→Prop)(Z:Value→St→Prop):OR→Prop
 | .val s=>next (st.put d (.gd g.1 g.2 s))
 | .chk c s=>(dv ops st.t ops.length g→c)∧next (st.put d (.gd g.1 g.2 s))
 | .asm _ s=>next (st.put d (.gd g.1 g.2 s))
 | .newr s=>next (st.put d (.gd g.1 g.2 s))
 | .eff c a ups s=>(dv ops st.t ops.length g→c∧(a→next (St.put ⟨st.t,aU st.h ups⟩ d (.gd g.1 g.2 s))))∧(gq ops st.t ops.length g→next (st.put d (.gd g.1 g.2 .any)))
 | .call f args=>AI (args.all (cm 3)) (reach st.h 64 (args.flatMap (fq 3)) []) ops g d st next Z (G.o f (args.map (ren (inN (reach st.h 64 (args.flatMap (fq 3)) [])) 6)) (ru st.h (reach st.h 64 (args.flatMap (fq 3)) []))) (G.p f (args.map (fe st.h 6)))
 | .yld id args=>bif args.all (cm 3)then EX id ops g d st next (DF G args (am st.h id))else False
 | .bad=>un ops st.t ops.length g∧next (st.put d (.gd g.1 g.2 .any))
 | .nxt _=>False
 | .amb _=>False
 | .pan _=>False
def iO (ts:Tis)(G:Cons)(ops:List Oper):List Oper→St→(St→Prop)→(Value→St→Prop)→Prop
 | [],st,K,_=>K st
 |o::rest,st,K,Z=>match o.guard with
  |none=>lL G o.dst st (fun st'=>iO ts G ops rest st' K Z) Z (opS ⟨ts,ops,none,st,st.h.length⟩ o.op)
  |some g=>stepG G ops g o.dst st (fun st'=>iO ts G ops rest st' K Z) Z (opS ⟨ts,ops,some g,st,st.h.length⟩ o.op)
structure Dr where
 c:Prop
 a:Prop
 s:SV
 ups:List Up
 all:List Nat
def drR (np:Bool)(rd:List Nat)(nx:Nat)(p:Prop)(s:SV):List Ob→Option Dr
 | [] =>bif np||gS 3 s then some ⟨p,True,s,[],rd⟩else none
 | [ob] =>bif np||gS 3 s then some ⟨p,True,g9 3 nx s,[(nx,ob)],rd⟩else none
 |_=>none
def drC (np:Bool)(rd:List Nat)(nx:Nat):Option Con→Option Dr
 |some (.det p s) =>drR np rd nx p s (aJ 3 s)
 |_=>none
def jo (G:Cons)(h:List Ob)(nx:Nat):OR→Option Dr
 | .val s=>some ⟨True,True,s,[],[]⟩
 | .chk c s=>some ⟨c,True,s,[],[]⟩
 | .asm c s=>some ⟨True,c,s,[],[]⟩
 | .newr s=>some ⟨True,True,s,[],[]⟩
 | .eff c a ups s=>some ⟨c,a,s,ups,[]⟩
 | .call f args=>drC (args.all (cm 3)) (args.flatMap (iN h 6)) nx (G.p f (args.map (fe h 6)))
 | .bad=>some ⟨False,True,.any,[],[]⟩
 |_=>none
def drN (d:Option Nat)(st:St)(next:List Nat→List Up→St→Prop)(r:Dr):Prop:=r.c∧(r.a→next r.all r.ups (St.put ⟨st.t,aU st.h r.ups⟩ d r.s))
def drG (ops:List Oper)(g:Nat×Bool)(d:Option Nat)(st:St)(next:List Nat→List Up→St→Prop)(r:Dr):Prop:=
 bif r.ups.isEmpty then(dv ops st.t ops.length g→r.c)∧next r.all [] (st.put d (.gd g.1 g.2 r.s))
 else ¬ (dv ops st.t ops.length g∧gq ops st.t ops.length g)∧(dv ops st.t ops.length g→r.c∧(r.a→next r.all r.ups (St.put ⟨st.t,aU st.h r.ups⟩ d (.gd g.1 g.2 r.s))))∧(gq ops st.t ops.length g→next r.all [] (st.put d (.gd g.1 g.2 r.s)))
def xd (d:Option Nat)(st:St)(next:List Nat→List Up→St→Prop)(cutp:Prop):Option Dr→Prop
 |some r=>drN d st next r
 |none=>cutp
def vz (ops:List Oper)(g:Nat×Bool)(d:Option Nat)(st:St)(next:List Nat→List Up→St→Prop)(cutp:Prop):Option Dr→Prop
 |some r=>drG ops g d st next r
 |none=>cutp
def ju (ts:Tis)(G:Cons)(ops:List Oper)(K:St→Prop)(Z:Value→St→Prop):List Oper→(i b:Nat)→List Fp→St→Prop
 | [],_,b,fps,st=>rK ops b fps∧K st
 |o::rest,i,b,fps,st=>match o.guard with
  |none=>xd o.dst st (fun all ups st'=>ju ts G ops K Z rest (i+1) b (fps++[fpU o.op (fpO ⟨ts,ops,none,st,st.h.length⟩ o.op) all ups]) st')
    (rK ops b fps∧AH ops i=true∧lL G o.dst st (fun st'=>ju ts G ops K Z rest (i+1) (i+1) [] st') Z (opS ⟨ts,ops,none,st,st.h.length⟩ o.op))
    (jo G st.h st.h.length (opS ⟨ts,ops,none,st,st.h.length⟩ o.op))
  |some g=>vz ops g o.dst st (fun all ups st'=>ju ts G ops K Z rest (i+1) b (fps++[fpU o.op (fpO ⟨ts,ops,some g,st,st.h.length⟩ o.op) all ups]) st')
    (rK ops b fps∧AH ops i=true∧stepG G ops g o.dst st (fun st'=>ju ts G ops K Z rest (i+1) (i+1) [] st') Z (opS ⟨ts,ops,some g,st,st.h.length⟩ o.op))
    (jo G st.h st.h.length (opS ⟨ts,ops,some g,st,st.h.length⟩ o.op))
def Ru (id:Nat):Ob→SV
 | .fwd (some n) =>.os n
 |_=>.os id
def Lr (h:List Ob):SV→SV
 | .os id=>Ru id (am h id)
 |s=>s
def GY (h:List Ob):List (Nat×SV)→List (Nat×SV)
 | [] =>[]
 |(d,s)::r=>(d,Lr h s)::GY h r
def Ip:Ob→Bool
 | .fwd (some _) =>true
 |_=>false
def kU:List Ob→Bool
 | [] =>false
 |o::r=>Ip o||kU r
def Rv:Ob→Ob
 | .fwd _=>.dead
 |o=>o
def wL:List Ob→List Ob
 | [] =>[]
 |o::r=>Rv o::wL r
def cleanF (st:St):St:=bif kU st.h then ⟨GY st.h st.t,wL st.h⟩else st
def vA (ops:List Oper)(st:St):St:=cleanF (bif ops.any (·.guard.isSome)then ⟨ungd st.t,st.h⟩else st)
inductive Ex where
 |normal
 |exit (id:Nat)
 |ret
 |pan (x:Value)
def Ex.then (K:St→Prop)(Q:Ex→St→Prop):Ex→St→Prop
 | .normal,st=>K st
 |e,st=>Q e st
def Ex.block (id:Nat)(Q:Ex→St→Prop):Ex→St→Prop
 | .exit j,st=>bif Nat.beq j id then Q .normal st else Q (.exit j) st
 |e,st=>Q e st
def wM (x y:Prop):SV→Prop
 | .v (.bool b) =>(b=true→x)∧(b=false→y)
 |_=>False
structure LCon where
 α:Type
 pre:Prop
 post:α→Prop
 ex:α→Ex
 out:α→St
abbrev tF:=Nat→St→Option LCon
def rL (Q:Ex→St→Prop):Option LCon→Prop
 |some c=>c.pre∧∀ r,c.post r→Q (c.ex r) (c.out r)
 |none=>False
def Ls:Operand→Nat
 | .tmp n=>n+1000000
 |_=>0
def subJ (t:List (Nat×SV)):List (Nat×SV)→Prop
 | [] =>True
 |(n,s)::r=>lk n t=s∧subJ t r
def inJ (d:St):Ex→St→Prop
 | .normal,st=>st.h=d.h∧subJ st.t d.t
 |_,_=>False
def Lt (x y:(Ex→St→Prop)→Prop)(Q:Ex→St→Prop)(s:SV)(c:LCon):Prop:=
 wM (x fun e st=>∃ r,c.post r∧inJ (c.out r) e st) (y fun e st=>∃ r,c.post r∧inJ (c.out r) e st) s∧∀ r,c.post r→Q .normal (c.out r)
def AJ (x y:(Ex→St→Prop)→Prop)(Q:Ex→St→Prop)(s:SV):Option LCon→Prop
 |none=>wM (x Q) (y Q) s
 |some c=>Lt x y Q s c
def JC (d:St):LCon:=⟨Unit,True,fun _=>True,fun _=>.normal,fun _=>d⟩
def VR (c:LCon)(Q:Ex→St→Prop):Ex→St→Prop
 | .normal,st=>∃ r,c.post r∧inJ (c.out r) .normal st
 |e,st=>Q e st
def inC (d:St)(Q:Ex→St→Prop):Ex→St→Prop
 | .normal,st=>inJ d .normal st
 |e,st=>Q e st
def cutL (x:(Ex→St→Prop)→Prop)(Q:Ex→St→Prop)(c:LCon):Prop:=x (VR c Q)∧∀ r,c.post r→Q .normal (c.out r)
def AK (x:(Ex→St→Prop)→Prop)(Q:Ex→St→Prop):Option LCon→Prop
 |none=>x Q
 |some c=>cutL x Q c
def zn (ts:Tis)(G:Cons)(ops:Array Oper)(d:Bool)(st:St)(Q:Ex→St→Prop):Prop:=
 bif d then ju ts G ops.toList (fun st'=>Q .normal (vA ops.toList st')) (fun x st'=>Q (.pan x) st') ops.toList 0 0 [] st
   else iO ts G ops.toList ops.toList st (fun st'=>Q .normal (vA ops.toList st')) (fun x st'=>Q (.pan x) st')
def exec (ts:Tis)(G:Cons)(L:tF):Code→St→(Ex→St→Prop)→Prop
 | .skip,st,Q=>Q .normal st
 | .region id ops d,st,Q=>AK (zn ts G ops d st) Q (L (id+2000000) st)
 | .seq a b,st,Q=>exec ts G L a st (Ex.then (fun st'=>exec ts G L b st' Q) Q)
 | .cond c x y,st,Q=>AJ (exec ts G L x st) (exec ts G L y st) Q (raw st.t c) (L (Ls c) st)
 | .block id (.loop _),st,Q=>rL Q (L id st)
 | .block id (.rangeFunc ..),st,Q=>rL Q (L id st)
 | .block id c,st,Q=>exec ts G L c st (Ex.block id Q)
 | .exit id,st,Q=>Q (.exit id) st
 | .ret,st,Q=>Q .ret st
 | .scope c,st,Q=>exec ts G L c st Q
 | .label _,st,Q=>Q .normal st
 |_,_,_=>False
def Oi:OR→Option SV
 | .val s=>some s
 |_=>none
def JK (ts:Tis)(st:St):ResultVar→Option SV
 | .tmp n=>some (lk n st.t)
 | .cell q t=>Oi (aF ts t fun ti=>qh ti st.h (lk q st.t))
def EY:Option SV→Option (List SV)→Option (List SV)
 |some s,some l=>some (s::l)
 |_,_=>none
def jv (ts:Tis)(st:St):List ResultVar→Option (List SV)
 | [] =>some []
 |x::r=>EY (JK ts st x) (jv ts st r)
def kD:Option (List SV)→Option SV
 |some [s] =>some s
 |some l=>some (.tup l)
 |none=>none
def VS (h:List Ob):Option SV→Option SV
 |some s=>some (fe h 4 s)
 |none=>none
def vB (rs:List ResultVar)(ts:Tis)(st:St):Option SV:=VS st.h (kD (jv ts st rs))
def vC:Ob→SV
 | .row k l=>.nw k l
 | .mp k k2 l none=>.nm k k2 l
 | .grid k l=>.ng k l
 |_=>.any
def wN (h:List Ob):Nat→SV→SV
 |_,.os id=>vC (am h id)
 |n+1,.agg l=>.agg (l.map (wN h n))
 |n+1,.tup l=>.tup (l.map (wN h n))
 |_,.v x=>.v x
 |_,.rs k l=>.rs k l
 |_,.rm k k2 l=>.rm k k2 l
 |_,.e0=>.e0
 |n,s=>bif cm n s then s else .any
def uq:Nat→SV→List Nat
 |_,.os id=>[id]
 |n+1,.agg l=>l.flatMap (uq n)
 |n+1,.tup l=>l.flatMap (uq n)
 |_,_=>[]
def uniq:List Nat→Bool
 | [] =>true
 |a::r=>!(zM a r)&&uniq r
def zo (h:List Ob)(s:SV):Option SV:=bif uniq (uq 3 s)&&(uq 3 s).all (fun i=>Nat.blt i h.length)then some (wN h 3 s)else none
def Qt (h:List Ob):Option SV→Option SV
 |some s=>zo h s
 |none=>none
def JM (rs:List ResultVar)(ts:Tis)(st:St):Option SV:=Qt st.h (kD (jv ts st rs))
def xe (m:Bool)(rs:List ResultVar)(ts:Tis)(st:St):Option SV:=bif m then JM rs ts st else vB rs ts st
def z7 (ops:List Oper)(i:Nat)(o:Oper):Bool:=
 match o.guard with
 |none=>true
 |some (j,_) =>Nat.blt j i&&(match (nth ops j).bind (·.dst)with
  |some d=>(List.range ops.length).all fun k=>Nat.beq k j||(match (nth ops k).bind (·.dst)with|some e=>!(Nat.beq d e) |none=>true)
  |none=>false)
def Lu (N:Nat)(ops:List Oper):Bool:=
 (List.range ops.length).all fun i=>match nth ops i with
  |some o=>(match o.dst with|some d=>Nat.blt d N|none=>true)&&z7 ops i o
  |none=>true
def pg (o:Oper)(k:Nat):Bool:=o.after.toList.any fun e=>Nat.beq e.on k&&Region.binds .any e
def GZ (ops:Array Oper):Bool:=
 (List.range ops.size).all fun i=>match nth ops.toList i with
  |some o=>
   (o.after.toList.all fun e=>!(Region.binds .any e) ||Nat.blt e.on i)&&
   (List.range ops.size).all fun k=>match nth ops.toList k with
    |some q=>match q.dst with
     |some d=>(Nat.beq k i|| !(o.dst==some d))&&(!((o.looksAt ops).contains d) ||Nat.beq k i||(Nat.blt k i&&pg o k) ||(Nat.blt i k&&pg q i))
     |none=>true
    |none=>true
  |none=>true
def cg (N:Nat):Code→Bool
 | .region _ ops d=>Lu N ops.toList&&(!d||GZ ops)
 | .seq a b=>cg N a&&cg N b
 | .cond _ a b=>cg N a&&cg N b
 | .block _ c=>cg N c
 | .loop c=>cg N c
 | .scope c=>cg N c
 | .rangeFunc _ _ a b=>cg N a&&cg N b
 |_=>true
def mR:Nat→Nat→SV→Bool
 |_,_,.v _=>true
 |_,_,.rs _ _=>true
 |_,_,.rm _ _ _=>true
 |_,_,.any=>true
 |_,_,.e0=>true
 |_,n,.ptr id _=>Nat.blt id n
 |_,n,.os id=>Nat.blt id n
 |_,n,.rp _ id _ _=>Nat.blt id n
 |_,n,.gr id _=>Nat.blt id n
 |_,n,.gp _ id _ _ _=>Nat.blt id n
 |_,n,.vw _ id _ _=>Nat.blt id n
 |f+1,n,.ep l _=>l.all (mR f n)
 |f+1,n,.ls l=>l.all (mR f n)
 |f+1,n,.agg l=>l.all (mR f n)
 |f+1,n,.tup l=>l.all (mR f n)
 |f+1,n,.fn _ l m=>l.all (mR f n)&&m.all (mR f n)
 |_,_,_=>false
def JN (m:Nat→Option Nat)(n:Nat)(t:List (Nat×SV)):List (Nat×SV)→Prop
 | [] =>True
 |(i,s)::r=>(lk i t=ren m 5 s∧mR 5 n s=true)∧JN m n t r
def cK:Ob→Bool
 | .dead=>true
 |_=>false
def uR (n:Nat):Ob→Bool
 | .cells l=>l.all (mR 3 n)
 | .mi (some i) _ _ _=>Nat.blt i n
 | .fwd (some i) =>Nat.blt i n
 | .mp _ _ _ (some (i,_)) =>Nat.blt i n
 |_=>true
def unp {κ:Type}:Option (Nat×Option κ)→Option (Nat×Option κ)
 |some (_,none) =>none
 |p=>p
def EZ:SV→Bool
 | .any=>true
 |_=>false
def wkL:List SV→List SV→List SV
 |a::r,x::s=>(bif EZ a then .any else x)::wkL r s
 |_,s=>s
def AL:Ob→Ob→Ob
 | .mp _ _ _ none,.mp kk vk l p=>.mp kk vk l (unp p)
 | .cells a,.cells l=>.cells (wkL a l)
 |_,o=>o
def DG (m:Nat→Option Nat)(n:Nat)(h:List Ob)(j:Nat)(o:Ob):Prop:=bif cK o then True else AL o (am h j)=uo m o∧uR n o=true
def B8 (m:Nat→Option Nat)(n:Nat)(h:List Ob):List Nat→List Ob→Prop
 | [],[] =>True
 |j::js,o::r=>DG m n h j o∧B8 m n h js r
 |_,_=>False
def mE:List Nat→List Ob→List Nat
 |j::js,o::r=>bif cK o then mE js r else j::mE js r
 |_,_=>[]
def xf:Nat→List Nat→Nat→Bool
 |_,[],_=>true
 |i,j::js,n=>(Nat.beq i j||Nat.ble n i)&&xf (i+1) js n
def zN (js:List Nat)(i:Nat):Option Nat:=nth js i
def Sub (js:List Nat)(n0:Nat)(st st2:St):Prop:=
 (uniq (mE js st2.h)=true∧xf 0 js n0=true∧js.all (fun j=>Nat.blt j st.h.length)=true)∧JN (zN js) st2.h.length st.t st2.t∧B8 (zN js) st2.h.length st.h js st2.h
def ur {σ:Type}(D:σ→St)(I:σ→Prop)(m:σ→Nat)(n0:Nat)(x:σ)(id:Nat)(Q:Ex→St→Prop):Ex→St→Prop
 | .normal,st=>∃ y js,I y∧m y<m x∧n0≤(D y).h.length∧Sub js n0 st (D y)
 | .exit j,st=>bif Nat.beq j id then Q .normal st else Q (.exit j) st
 | .ret,st=>Q .ret st
 | .pan x,st=>Q (.pan x) st
def lM:Nat→List SV→List (Nat×SV)
 |_,[] =>[]
 |n,s::r=>(n,s)::lM (n+1) r
def eu (post:SV→Prop):Option SV→Prop
 |some s=>post s
 |none=>False
def E0 (m:Bool)(rs:List ResultVar)(ts:Tis)(post:SV→Prop)(pp:Value→Prop):Ex→St→Prop
 | .exit _,_=>False
 | .normal,st=>eu post (xe m rs ts st)
 | .ret,st=>eu post (xe m rs ts st)
 | .pan x,_=>pp x
def xR (n0:Nat)(C:HCon):Option SV→List Ob→Prop
 |some s,h=>∃ r s' h' js,C.post r∧C.res r=.ret s' h'∧n0≤h'.length∧Sub js n0 ⟨[(0,s)],h⟩ ⟨[(0,s')],h'⟩
 |none,_=>False
def E1 (n0:Nat)(rs:List ResultVar)(ts:Tis)(C:HCon):Ex→St→Prop
 | .exit _,_=>False
 | .normal,st=>xR n0 C (kD (jv ts st rs)) st.h
 | .ret,st=>xR n0 C (kD (jv ts st rs)) st.h
 | .pan x,st=>∃ r h' js,C.post r∧C.res r=.pan x h'∧n0≤h'.length∧Sub js n0 ⟨[],st.h⟩ ⟨[],h'⟩
structure Hd where
 p:Option Nat:=none
 v:Value:=undef
 vs:List Value:=[]
 bs:List Nat:=[]
abbrev Own:=Nat→Option Hd
def bP (F:Nat→Prop)(own:Own)(b:Nat):Prop:=F b∨∃ id hd,own id=some hd∧b∈hd.bs
def cj:Own:=fun _=>none
def Hd.like (a b:Hd):Prop:=b.p=a.p∧b.v=a.v∧b.vs=a.vs
theorem Hd.like.refl (a:Hd):a.like a:=⟨rfl,rfl,rfl⟩
theorem Hd.like.trans {a b c:Hd}(h:a.like b)(h':b.like c):a.like c:=⟨h'.1.trans h.1,h'.2.1.trans h.2.1,h'.2.2.trans h.2.2⟩
def qi:Value→Bool
 | .agg _=>false
 | .tuple _=>false
 |_=>true
theorem AM {v:Value}(h:qi v=true):v.cells= #[v]:=by cases v <;>first|rfl|simp[qi]at h
theorem mF {v:Value}(h:qi v=true):v.oneCell'=true:=by cases v <;>first|rfl|simp[qi]at h
def Rw (x:Value)(sz:Nat)(lo hi:Int)(a:Option Addr):Prop:=hi.toNat≤lo.toNat∨∃ b o n cap,x=.slice (some ⟨b,o,none⟩) n cap∧hi.toNat≤n∧a=some ⟨b,o+lo.toNat*sz,none⟩
inductive Rel (F:Nat→Prop)(own:Own)(w:World):SV→Value→Prop where
 |any (v:Value):Rel F own w .any v
 |v (x:Value):Rel F own w (.v x) x
 |ptr {id off b:Nat} {hd:Hd}:own id=some hd→hd.p=some b→Rel F own w (.ptr id off) (.pointer (some ⟨b,off,none⟩))
 |os {id:Nat} {hd:Hd}:own id=some hd→qi hd.v=true→Rel F own w (.os id) hd.v
 |e0 {a:Option Addr}:Rel F own w .e0 (.slice a 0 0)
 |rp {sz id off n cap b o:Nat} {i:Int} {hd:Hd}:own id=some hd→hd.v=.slice (some ⟨b,o,none⟩) n cap→i.toNat<n→Rel F own w (.rp sz id i off) (.pointer (some ⟨b,o+i.toNat*sz+off,none⟩))
 |gr {id:Nat} {i:Int} {v:Value} {hd:Hd}:own id=some hd→hd.vs[i.toNat]? =some v→qi v=true→Rel F own w (.gr id i) v
 |gp {sz id off n cap b o:Nat} {i j:Int} {hd:Hd}:own id=some hd→hd.vs[i.toNat]? =some (.slice (some ⟨b,o,none⟩) n cap)→j.toNat<n→Rel F own w (.gp sz id i j off) (.pointer (some ⟨b,o+j.toNat*sz+off,none⟩))
 |vw {sz id cap:Nat} {lo hi:Int} {hd:Hd} {a:Option Addr}:own id=some hd→Rw hd.v sz lo hi a→hi.toNat - lo.toNat≤cap→Rel F own w (.vw sz id lo hi) (.slice a (hi.toNat - lo.toNat) cap)
 |ep {cells:List SV} {off b o:Nat} (c:Nat→Value):
   (∀ j s,cells[j]? =some s→¬bP F own b∧w.cell? ⟨b,o+j,none⟩=some (c j))→(∀ j s,cells[j]? =some s→Rel F own w s (c j))→
   Rel F own w (.ep cells off) (.pointer (some ⟨b,o+off,none⟩))
 |rs {k:Tag} {l:List k.T} {b o cap:Nat} (c:Nat→Nat→Value):l.length≤cap→l.length≤aQ→
   (∀ (i:Nat) (x:k.T),l[i]? =some x→∀ (j:Nat) (s:SV),(cellsOf k x)[j]? =some s→¬bP F own b∧w.cell? ⟨b,o+i*aa k+j,none⟩=some (c i j))→
   (∀ (i:Nat) (x:k.T),l[i]? =some x→∀ (j:Nat) (s:SV),(cellsOf k x)[j]? =some s→Rel F own w s (c i j))→
   Rel F own w (.rs k l) (.slice (some ⟨b,o,none⟩) l.length cap)
 |rs0 {k:Tag} {a:Option Addr} {cap:Nat}:Rel F own w (.rs k []) (.slice a 0 cap)
 |ls {l:List SV} {b o cap:Nat} (c:Nat→Value):l.length≤cap→
   (∀ j s,l[j]? =some s→¬bP F own b∧w.cell? ⟨b,o+j,none⟩=some (c j))→(∀ j s,l[j]? =some s→Rel F own w s (c j))→
   Rel F own w (.ls l) (.slice (some ⟨b,o,none⟩) l.length cap)
 |rm {kk vk:Tag} {l:List (kk.T×vk.T)} {b:Nat} (ck cv:Nat→Value) (es:Array MapEntry) (clock:Nat):¬bP F own b→w.heap[b]? =some (.map es clock)→es.size=l.length→
   (∀ (i:Nat) (x:kk.T×vk.T),l[i]? =some x→∃ n,es[i]? =some ⟨ck i,cv i,n⟩)→
   (∀ (i:Nat) (x:kk.T×vk.T),l[i]? =some x→Rel F own w (svT kk x.1) (ck i))→(∀ (i:Nat) (x:kk.T×vk.T),l[i]? =some x→Rel F own w (svT vk x.2) (cv i))→
   Rel F own w (.rm kk vk l) (.map (some b))
 |rm0 {kk vk:Tag}:Rel F own w (.rm kk vk []) (.map none)
 |agg {l:List SV} {vs:Array Value}:vs.size=l.length→(∀ (j:Nat) (s:SV),l[j]? =some s→Rel F own w s (vs.getD j undef))→Rel F own w (.agg l) (.agg vs)
 |tup {l:List SV} {vs:Array Value}:vs.size=l.length→(∀ (j:Nat) (s:SV),l[j]? =some s→Rel F own w s (vs.getD j undef))→Rel F own w (.tup l) (.tuple vs)
 |fn {f:FuncId} {first caps:List SV} {us vs:Array Value}:us.size=first.length→vs.size=caps.length→(∀ (j:Nat) (s:SV),first[j]? =some s→Rel F own w s (us.getD j undef))→
   (∀ (j:Nat) (s:SV),caps[j]? =some s→Rel F own w s (vs.getD j undef))→Rel F own w (.fn f first caps) (.func (.func f) us vs)
structure Goes (F:Nat→Prop)(own:Own)(w:World)(own':Own)(w':World):Prop where
 ids:∀ (id:Nat) (hd:Hd),own id=some hd→∃ hd',own' id=some hd'∧hd.like hd'
 keep:∀ b,b<w.heap.size→¬bP F own b→¬bP F own' b∧w'.heap[b]? =w.heap[b]?
 size:w.heap.size≤w'.heap.size
structure Bs where
 w:World
 own:Own:=cj
 ds:List Deferred:=[]
def Old (B:Bs)(b:Nat):Prop:=b<B.w.heap.size∧¬ ∃ id hd,B.own id=some hd∧b∈hd.bs
structure Fr (B:Bs)(own:Own)(w:World):Prop where
 ids:∀ (id:Nat) (hd:Hd),B.own id=some hd→∃ hd',own id=some hd'∧hd.like hd'
 base:∀ (id:Nat) (hd:Hd) (b:Nat),own id=some hd→b∈hd.bs→¬Old B b
 os:w.os=B.w.os
 tape:w.tape=B.w.tape
 output:w.output=B.w.output
 size:B.w.heap.size≤w.heap.size
 block:∀ k,Old B k→w.heap[k]? =B.w.heap[k]?
theorem Fr.refl (B:Bs):Fr B B.own B.w:=⟨fun _ hd h=>⟨hd,h,.refl _⟩,fun id hd _ h hb ho=>ho.2 ⟨id,hd,h,hb⟩,rfl,rfl,rfl,Nat.le_refl _,fun _ _=>rfl⟩
theorem Fr.below {B:Bs}{own:Own}{w w':World}(h:Fr B own w)(hb:Below w.heap.size w w'):Fr B own w':=
 ⟨h.ids,h.base,hb.os.trans h.os,hb.tape.trans h.tape,hb.output.trans h.output,Nat.le_trans h.size hb.size,fun k hk=>(hb.block k (Nat.lt_of_lt_of_le hk.1 h.size)).trans (h.block k hk)⟩
theorem Fr.drew {B:Bs}{own:Own}{w:World}(h:Fr B own w):Fr B own { w with drawn:=w.drawn+1}:=⟨h.ids,h.base,h.os,h.tape,h.output,h.size,h.block⟩
theorem Fr.trans {B:Bs}{own own':Own}{w w':World}(h:Fr B own w)(h':Fr { w:=w,own:=own} own' w'):Fr B own' w':=by
 have hold:∀ k,Old B k→Old { w:=w,own:=own} k:=fun k hk=>⟨Nat.lt_of_lt_of_le hk.1 h.size,fun⟨id,hd,hm,hb⟩ =>h.base id hd k hm hb hk⟩;refine⟨fun id hd hi=>?_,fun id hd b hi hb ho=>h'.base id hd b hi hb (hold b ho),h'.os.trans h.os,h'.tape.trans h.tape,h'.output.trans h.output,Nat.le_trans h.size h'.size,
  fun k hk=>(h'.block k (hold k hk)).trans (h.block k hk)⟩
 obtain⟨hd1,e1,l1⟩:=h.ids id hd hi;obtain⟨hd2,e2,l2⟩:=h'.ids id hd1 e1;exact⟨hd2,e2,l1.trans l2⟩
theorem Fr.goes {F:Nat→Prop}{own own':Own}{w w':World}(h:Fr { w:=w,own:=own} own' w'):Goes F own w own' w':=
 ⟨h.ids,fun b hb hn=>by
  have ho:Old { w:=w,own:=own} b:=⟨hb,fun⟨id,hd,hm,he⟩ =>hn (.inr ⟨id,hd,hm,he⟩)⟩;refine⟨?_,h.block b ho⟩;rintro (hf| ⟨id,hd,hm,he⟩)
  ·exact hn (.inl hf)
  ·exact h.base id hd b hm he ho,h.size⟩
theorem Fr.of_step {own own':Own}{w w':World}(ids:∀ (id:Nat) (hd:Hd),own id=some hd→∃ hd',own' id=some hd'∧hd.like hd')
  (bs:∀ id hd b,own' id=some hd→b∈hd.bs→(∃ id' hd',own id'=some hd'∧b∈hd'.bs)∨w.heap.size≤b)
  (block:∀ b,b<w.heap.size→(¬ ∃ id hd,own id=some hd∧b∈hd.bs)→w'.heap[b]? =w.heap[b]?) (size:w.heap.size≤w'.heap.size)
  (os:w'.os=w.os) (tape:w'.tape=w.tape) (output:w'.output=w.output):Fr { w:=w,own:=own} own' w':=
 ⟨ids,fun id hd b h1 h2 ho=>by
  rcases bs id hd b h1 h2 with h|h
  ·exact ho.2 h
  ·have:=ho.1;simp at this;omega,os,tape,output,size,fun k hk=>block k hk.1 hk.2⟩
theorem DH {w:World}{b o:Nat}{v:Value}(h:w.cell? ⟨b,o,none⟩=some v):b<w.heap.size:=World.block_lt_of_cell? w _ h
theorem rD {w w':World}{b:Nat}(h:w'.heap[b]? =w.heap[b]?)(o:Nat):w'.cell? ⟨b,o,none⟩=w.cell? ⟨b,o,none⟩:=by
 simp only[World.cell?,h]
theorem mG {w:World}{b:Nat}{o:Obj}(h:w.heap[b]? =some o):b<w.heap.size:=by
 rcases Nat.lt_or_ge b w.heap.size with h'|h'
 ·exact h'
 ·simp[Array.getElem?_eq_none h']at h
structure Carries (F:Nat→Prop)(own:Own)(w:World)(F':Nat→Prop)(own':Own)(w':World):Prop where
 ids:∀ (id:Nat) (hd:Hd),own id=some hd→∃ hd',own' id=some hd'∧hd.like hd'
 keep:∀ b,b<w.heap.size→¬bP F own b→¬bP F' own' b∧w'.heap[b]? =w.heap[b]?
theorem Goes.carries {F:Nat→Prop}{own own':Own}{w w':World}(g:Goes F own w own' w'):Carries F own w F own' w':=⟨g.ids,g.keep⟩
theorem Rel.carry {F F':Nat→Prop}{own own':Own}{w w':World}(g:Carries F own w F' own' w'){s:SV}{v:Value}(h:Rel F own w s v):Rel F' own' w' s v:=by
 induction h with
 |any v=>exact .any v
 |v x=>exact .v x
 |ptr h1 h2=>obtain⟨hd',e,l⟩:=g.ids _ _ h1;exact .ptr e (l.1.trans h2)
 |os h1 h2=>obtain⟨hd',e,l⟩:=g.ids _ _ h1;rw[←l.2.1]at h2 ⊢;exact .os e h2
 |e0=>exact .e0
 |rp h1 h2 h3=>obtain⟨hd',e,l⟩:=g.ids _ _ h1;exact .rp e (l.2.1.trans h2) h3
 |gr h1 h2 h3=>obtain⟨hd',e,l⟩:=g.ids _ _ h1;exact .gr e (by rw[l.2.2];exact h2) h3
 |gp h1 h2 h3=>obtain⟨hd',e,l⟩:=g.ids _ _ h1;exact .gp e (by rw[l.2.2];exact h2) h3
 |vw h1 h2 h3=>obtain⟨hd',e,l⟩:=g.ids _ _ h1;exact .vw e (by rw[l.2.1];exact h2) h3
 |ep c h1 _ ih=>
  refine .ep c (fun j s hj=>?_) ih;obtain⟨hn,hc⟩:=h1 j s hj;obtain⟨hn',hk⟩:=g.keep _ (DH hc) hn;exact⟨hn',by rw[rD hk];exact hc⟩
 |rs c h0 h0' h1 _ ih=>
  refine .rs c h0 h0' (fun i x hi j s hj=>?_) ih;obtain⟨hn,hc⟩:=h1 i x hi j s hj;obtain⟨hn',hk⟩:=g.keep _ (DH hc) hn;exact⟨hn',by rw[rD hk];exact hc⟩
 |rs0=>exact .rs0
 |ls c h0 h1 _ ih=>
  refine .ls c h0 (fun j s hj=>?_) ih;obtain⟨hn,hc⟩:=h1 j s hj;obtain⟨hn',hk⟩:=g.keep _ (DH hc) hn;exact⟨hn',by rw[rD hk];exact hc⟩
 |rm ck cv es clock h0 h1 h2 h3 _ _ ih1 ih2=>
  obtain⟨hn',hk⟩:=g.keep _ (mG h1) h0;exact .rm ck cv es clock hn' (by rw[hk];exact h1) h2 h3 ih1 ih2
 |rm0=>exact .rm0
 |agg h0 _ ih=>exact .agg h0 ih
 |tup h0 _ ih=>exact .tup h0 ih
 |fn h0 h0' _ _ ih1 ih2=>exact .fn h0 h0' ih1 ih2
theorem Rel.mono {F:Nat→Prop}{own own':Own}{w w':World}(g:Goes F own w own' w'){s:SV}{v:Value}(h:Rel F own w s v):Rel F own' w' s v:=h.carry g.carries
theorem Goes.refl (F:Nat→Prop)(own:Own)(w:World):Goes F own w own w:=⟨fun _ hd h=>⟨hd,h,.refl _⟩,fun _ _ h=>⟨h,rfl⟩,Nat.le_refl _⟩
theorem qj (w:World)(o:Obj)(b:Nat)(h:b<w.heap.size):(w.alloc o).heap[b]? =w.heap[b]?:=Below.heap_alloc w o b h
theorem lN (w:World)(o:Obj):(w.alloc o).heap[w.heap.size]? =some o:=by show(w.heap.push o)[w.heap.size]? =_;simp
theorem i0 (w:World)(o:Obj):(w.alloc o).heap.size=w.heap.size+1:=by show(w.heap.push o).size=_;simp
theorem Goes.below (F:Nat→Prop)(own:Own){w w':World}(h:Below w.heap.size w w'):Goes F own w own w':=
 ⟨fun _ hd h=>⟨hd,h,.refl _⟩,fun b hb hn=>⟨hn,h.block b hb⟩,h.size⟩
theorem qk (w:World)(o:Obj):Below w.heap.size w (w.alloc o):=(Below.refl _ _).alloc (Nat.le_refl _) o
theorem f5 {α:Type}:∀ (l:List α) (i:Nat),nth l i=l[i]?
 | [],i=>by simp[nth]
 |x::r,0=>by simp[nth]
 |x::r,i+1=>by simp[nth,f5 r i]
theorem rM:∀ l:List SV,sz l=l.length
 | [] =>rfl
 |x::r=>by simp[sz,rM r]
theorem DI:∀ (n:Nat) (l:List SV),cut n l=l.take n
 |0,l=>by simp[cut]
 |n+1,[] =>by simp[cut]
 |n+1,x::r=>by simp[cut,DI n r]
theorem z8:∀ (n:Nat) (l:List SV),EO n l=l.drop n
 |0,l=>by simp[EO]
 |n+1,[] =>by simp[EO]
 |n+1,x::r=>by simp[EO,z8 n r]
theorem xS:∀ (l:List SV) (i:Nat) (s:SV),Aw l i s=l.set i s
 | [],i,s=>by simp[Aw]
 |x::r,0,s=>by simp[Aw]
 |x::r,i+1,s=>by simp[Aw,xS r i s]
theorem nL:∀ (vs cells:List SV) (off:Nat),(gH cells off vs).length=cells.length
 | [],cells,off=>rfl
 |x::xs,cells,off=>by simp[gH,nL xs,xS]
theorem oH:∀ (vs cells:List SV) (off:Nat),off+vs.length≤cells.length→∀ j,(gH cells off vs)[j]? =if off≤j∧j<off+vs.length then vs[j - off]? else cells[j]?
 | [],cells,off,_,j=>by simp only[gH,List.length_nil];rw[if_neg (by omega)]
 |x::xs,cells,off,h,j=>by
  simp only[List.length_cons]at h;rw[gH,oH xs _ _ (by simp[xS];omega),xS];by_cases hj:off+1≤j∧j<off+1+xs.length
  ·rw[if_pos hj,if_pos (by simp;omega),show j - off=(j - (off+1))+1 by omega,List.getElem?_cons_succ]
  ·rw[if_neg hj,List.getElem?_set];by_cases hjo:off=j
   ·subst hjo;rw[if_pos rfl,if_pos (by omega),if_pos (by simp)];simp
   ·rw[if_neg hjo,if_neg (by simp;omega)]
theorem p_:∀ (h:List Ob) (id:Nat),am h id=(h[id]?).getD .dead
 | [],id=>by simp[am]
 |o::r,0=>by simp[am]
 |o::r,n+1=>by simp[am,p_ r n]
theorem cL:∀ (h:List Ob) (id:Nat) (x:Ob) (j:Nat),am (bo h id x) j=if id=j then x else am h j
 | [],0,x,j=>by cases j <;>simp[bo,am]
 | [],n+1,x,j=>by
  cases j with
  |zero=>simp[bo,am]
  |succ j=>simp only[bo,am,cL [] n x j];by_cases h:n=j <;>simp[h]
 |o::r,0,x,j=>by cases j <;>simp[bo,am]
 |o::r,n+1,x,j=>by
  cases j with
  |zero=>simp[bo,am]
  |succ j=>simp only[bo,am,cL r n x j];by_cases h:n=j <;>simp[h]
theorem bM:∀ (h:List Ob) (id:Nat) (x:Ob),(bo h id x).length=if id<h.length then h.length else id+1
 | [],0,x=>by simp[bo]
 | [],n+1,x=>by simp[bo,bM [] n x]
 |o::r,0,x=>by simp[bo]
 |o::r,n+1,x=>by simp only[bo,List.length_cons,bM r n x];by_cases h:n<r.length <;>simp[h] <;>omega
theorem ql {h:List Ob}{id:Nat}(hi:h.length≤id):am h id=.dead:=by rw[p_,List.getElem?_eq_none hi];rfl
theorem qm (h l:List Ob)(id:Nat):am (h++l) id=if id<h.length then am h id else am l (id - h.length):=by
 rw[p_,p_,p_,List.getElem?_append];split <;>rfl
theorem AN {F:Nat→Prop}{own:Own}{w:World}{s:SV}{v:Value}{l:List SV}(h:Rel F own w s v)(hf:pc s=some l):
  v.cells.size=l.length∧∀ (j:Nat) (x:SV),l[j]? =some x→Rel F own w x (v.cells.getD j undef):=by
 have one:∀ {s:SV} {v:Value},Rel F own w s v→v.cells= #[v]→pc s=some [s]→pc s=some l→v.cells.size=l.length∧∀ (j:Nat) (x:SV),l[j]? =some x→Rel F own w x (v.cells.getD j undef):=by
  intro s v h hc h1 h2;rw[h1]at h2;simp only[Option.some.injEq]at h2;subst h2;rw[hc];refine⟨rfl,fun j x hj=>?_⟩;cases j with
  |zero=>simp at hj;subst hj;simpa using h
  |succ j=>simp at hj
 cases h with
 |any=>simp[pc]at hf
 |v=>
  cases v <;>first|exact one (.v _) rfl rfl hf|simp[pc]at hf
  subst hf;rename_i cs;refine⟨by simp[Value.cells],fun j y hj=>?_⟩;simp at hj;obtain⟨z,hz,rfl⟩:=hj;simp[Value.cells,hz];exact .v _
 |ptr h1 h2=>exact one (.ptr h1 h2) rfl rfl hf
 |os h1 h2=>exact one (.os h1 h2) (AM h2) rfl hf
 |e0=>exact one .e0 rfl rfl hf
 |rp h1 h2 h3=>exact one (.rp h1 h2 h3) rfl rfl hf
 |gr h1 h2 h3=>exact one (.gr h1 h2 h3) (AM h3) rfl hf
 |gp h1 h2 h3=>exact one (.gp h1 h2 h3) rfl rfl hf
 |vw h1 h2 h3=>exact one (.vw h1 h2 h3) rfl rfl hf
 |ep c h1 h2=>exact one (.ep c h1 h2) rfl rfl hf
 |rs c h0 h0' h1 h2=>exact one (.rs c h0 h0' h1 h2) rfl rfl hf
 |rs0=>exact one .rs0 rfl rfl hf
 |ls c h0 h1 h2=>exact one (.ls c h0 h1 h2) rfl rfl hf
 |rm ck cv es clock h0 h1 h2 h3 h4 h5=>exact one (.rm ck cv es clock h0 h1 h2 h3 h4 h5) rfl rfl hf
 |rm0=>exact one .rm0 rfl rfl hf
 |agg h0 h1=>simp[pc]at hf;subst hf;exact⟨h0,h1⟩
 |tup=>simp[pc]at hf
 |fn h0 h0' h1 h2=>exact one (.fn h0 h0' h1 h2) rfl rfl hf
end Go.Sx
end
