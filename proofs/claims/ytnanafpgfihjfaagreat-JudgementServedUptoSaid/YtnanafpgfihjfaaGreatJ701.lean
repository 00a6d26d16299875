/- Part of the proof that the law JudgementServed returns true and leaves its arguments as they were, for all arguments of bulk at most 1048576 (the Upto form). -/
import Derived.Calls
import Derived.Orders
import Derived.Below
import Derived.KernelRfl
import Derived.Laws.Sem
import Derived.Laws.World
import Derived.Laws.Cells
set_option linter.all false
set_option maxHeartbeats 4000000
set_option maxRecDepth 100000
namespace Go.Sx
def aim:=@Bool.and_eq_true
def ain:=@Nat.eq_of_beq_eq_true
def aio:=@Nat.le_refl
def aip:=@Option.some.injEq
def aiq:=@List.getElem?_eq_some_iff
def air:=@Int.toNat_natCast
def ais:=@List.length_cons
def ait:=@Bool.false_eq_true
def aiu:=@List.mem_cons
def aiv:=@List.getElem?_eq_getElem
def aiw:=@List.mem_of_getElem?
def aix:=@List.mem_append
def aiy:=@Nat.lt_of_lt_of_le
def aiz:=@List.mem_cons_of_mem
def aiA:=@Result.andThen_ok
def aiB:=@Array.getD_eq_getD_getElem?
def aiC:=@List.nil_append
def aiD:=@Nat.mul_le_mul_right
def aiE:=@Bool.not_eq_true'
def aiF:=@List.cons_append
def aiG:=@Int.mul_le_mul_of_nonneg_right
def aiH:=@List.pairwise_iff_getElem
def aiI:=@List.length_nil
def aiJ:=@Sem.run_bind
def aiK:=@List.length_append
def aiL:=@List.all_eq_true
def aiM:=@List.pairwise_cons
def aiN:=@List.getElem_of_mem
def aiO:=@Classical.byContradiction
def aiP:=@Bool.not_true
def aiQ:=@List.append_nil
def aiR:=@Nat.le_trans
def aiS:=@Array.getElem?_append_left
def aiT:=@List.mem_singleton
def aiU:=@List.getElem?_of_mem
def aiV:=@Bool.or_eq_true
def aiW:=@List.map_cons
def aiX:=@Nat.zero_le
def aiY:=@Bool.not_false
def aiZ:=@Sum.inr.injEq
def ai0:=@Bool.eq_false_or_eq_true
def ai1:=@List.nodup_cons
def ai2:=@Nat.zero_add
def ai3:=@List.mem_filter
def ai4:=@Bool.cond_eq_ite
def ai5:=@List.flatMap_cons
def ai6:=@List.mem_cons_self
def ai7:=@List.getElem?_map
def ai8:=@Bool.or_eq_false_iff
def ai9:=@List.not_mem_nil
def ai_:=@List.getElem_mem
def aja:=@Value.slice.injEq
def ajb:=@List.eq_nil_of_length_eq_zero
def ajc:=@Int.le_refl
def ajd:=@List.mem_append_right
def aje:=@List.cons.injEq
def ajf:=@List.getElem?_append
def ajg:=@List.mem_append_left
def ajh:=@List.filter_cons_of_neg
def aji:=@List.filter_cons_of_pos
def ajj:=@Array.getElem?_eq_some_iff
def ajk:=@Nat.lt_or_ge
def ajl:=@Option.map_eq_some_iff
def ajm:=@List.take_succ_eq_append_getElem
def ajn:=@List.length_map
def ajo:=@Nat.lt_irrefl
def ajp:=@Int.mul_nonneg
def ajq:=@List.pairwise_append
def ajr:=@Nat.le_mul_of_pos_right
def ajs:=@List.nodup_append
def ajt:=@Option.map_some
def aju:=@Nat.not_lt_zero
def ajv:=@Bool.eq_iff_iff
def ajw:=@List.filter_sublist
def ajx:=@Sem.run_pure
def ajy:=@List.map_nil
def ajz:=@Array.getElem?_append_right
def ajA:=@Addr.mk.injEq
def ajB:=@Nat.add_assoc
def ajC:=@List.nodup_nil
def ajD:=@Bool.true_eq_false
def ajE:=@Array.getElem?_eq_getElem
def ajF:=@List.append_assoc
def ajG:=@List.pairwise_map
def ajH:=@List.mem_map_of_mem
def ajI:=@List.mergeSort_perm
def ajJ:=@List.filter_eq_self
def ajK:=@Array.eq_empty_of_size_eq_zero
def ajL:=@Option.bind_some
def ajM:=@List.pairwise_mergeSort
def ajN:=@List.flatMap_nil
def ajO:=@Int.mul_le_mul_of_nonneg_left
def ajP:=@Nat.add_zero
def ajQ:=@Nat.add_sub_cancel
def ajR:=@Array.getElem?_setIfInBounds
def ajS:=@Array.getElem?_toList
def ajT:=@List.getElem?_toArray
def ajU:=@Bool.and_eq_false_iff
def ajV:=@List.length_filter_le
def ajW:=@List.getElem?_set
def ajX:=@List.size_toArray
def ajY:=@Int.toNat_zero
def ajZ:=@Int.tmod_eq_emod_of_nonneg
def aj0:=@Int.le_of_mul_le_mul_right
def aj1:=@List.range'_succ
def aj2:=@Nat.sub_self
def aj3:=@List.mem_flatMap
def aj4:=@List.mem_or_eq_of_mem_set
def aj5:=@List.length_reverse
def aj6:=@List.IsPrefix.trans
def aj7:=@Option.isSome_iff_exists
def aj8:=@Bool.false_or
def aj9:=@List.Perm.eq_of_pairwise
def aj_:=@Bool.true_and
def aka:=@List.foldl_cons
def akb:=@List.getElem?_drop
def akc:=@Nat.mod_lt
def akd:=@Bool.not_eq_false'
def ake:=@List.filter_filter
def akf:=@List.getElem?_cons_succ
def akg:=@List.flatMap_eq_nil_iff
def akh:=@List.pairwise_singleton
def aki:=@List.mem_map
def akj:=@List.filter_eq_nil_iff
def akk:=@List.length_range
def akl:=@List.any_eq_true
def akm:=@Bool.not_eq_true
def akn:=@List.mem_of_mem_take
def ako:=@List.replicate_succ
def akp:=@Int.le_trans
def akq:=@Int.ofNat_zero
def akr:=@List.mem_range
def aks:=@List.takeWhile_cons_of_pos
def akt:=@List.drop_eq_getElem_cons
def aku:=@Int.lt_trichotomy
def akv:=@List.sum_cons
def akw:=@Nat.mod_eq_of_lt
def akx:=@List.getElem?_cons_zero
def aky:=@Option.getD_some
def akz:=@Option.bind_eq_some_iff
def akA:=@Int.eq_ofNat_of_zero_le
def akB:=@Iff.trans
def akC:=@Int.ediv_le_ediv
def akD:=@Nat.succ_mul
def akE:=@List.drop_eq_nil_of_le
def akF:=@List.getElem?_eraseIdx
def akG:=@List.append_eq_nil_iff
def akH:=@Bool.true_or
def akI:=@Int.le_ediv_iff_mul_le
def akJ:=@Value.int.injEq
def akK:=@World.cell?_alloc_new
def akL:=@List.length_mergeSort
def akM:=@List.singleton_append
def akN:=@List.Pairwise.sublist
def akO:=@Array.getElem_of_mem
def akP:=@List.drop_zero
def akQ:=@Nat.div_lt_of_lt_mul
def akR:=@List.perm_cons_erase
def akS:=@List.mem_iff_getElem
def akT:=@List.Perm.refl
def akU:=@Bool.false_and
def akV:=@List.length_pos_iff
def akW:=@List.map_congr_left
def akX:=@Int.toNat_of_nonneg
def akY:=@Prod.mk.injEq
def akZ:=@Bool.or_false
def ak0:=@Int.lt_irrefl
def ak1:=@List.getElem?_take
def ak2:=@Array.foldl_toList
def ak3:=@Int.cast_ofNat_Int
def ak4:=@Int.emod_lt_of_pos
def ak5:=@Int.lt_tmod_of_pos
def ak6:=@Nat.mul_comm
def ak9:=@Nat.beq_refl
def ak_:=@Bool.or_true
def alc:=@Array.ext
def ald:=@Nat.add_mul
def ale:=@Nat.mul_one
def alf:=@Nat.mod_one
def alg:=@Nat.sub_mul
def alh:=@Iff.rfl
end Go.Sx
section
namespace Go.Sx
open Go.RowKit
structure Range where
 lo:Int
 hi:Int
 deriving Inhabited,DecidableEq
structure Ratio where
 n:Int
 d:Int
 deriving Inhabited,DecidableEq
structure Reach where
 name:ByteArray
 up:Int
 delay:Int
 cap:Int
 bank:Int
 siphon:Int
 evap:Range
 seep:Ratio×Ratio
 deriving Inhabited,DecidableEq
structure Farm where
 name:ByteArray
 reach:Int
 area:Int
 crop:Int
 deriving Inhabited,DecidableEq
structure Crop where
 name:ByteArray
 need:Int
 deriving Inhabited,DecidableEq
structure Right where
 name:ByteArray
 kind:Int
 farm:Int
 reach:Int
 rank:Int
 litres:Int
 since:Int
 to:Int
 every:Int
 length:Int
 deriving Inhabited,DecidableEq
structure Duty where
 name:ByteArray
 farm:Int
 reach:Int
 due:Int
 deriving Inhabited,DecidableEq
structure Well where
 farm:Int
 reach:Int
 d:Int
 kernel:List Int
 deriving Inhabited,DecidableEq
structure Claim where
 right:Int
 farm:Int
 hour:Int
 litres:Int
 rank:Int
 deriving Inhabited,DecidableEq
structure Judgement where
 no:Int
 hour:Int
 kind:Int
 farm:Int
 other:Int
 since:Int
 to:Int
 n:Int
 of_:Int
 deriving Inhabited,DecidableEq
structure Case where
 no:Int
 hour:Int
 winner:Int
 facts:List Int
 reason:List Int
 deriving Inhabited,DecidableEq
structure Clause where
 no:Int
 then_:Int
 rank:Int
 strict:Bool
 if_:List Int
 deriving Inhabited,DecidableEq
structure Plea where
 facts:List Int
 clauses:List Clause
 deriving Inhabited,DecidableEq
structure Suit where
 no:Int
 hour:Int
 question:Int
 plea:Plea
 facts:List Int
 deriving Inhabited,DecidableEq
structure Order where
 hour:Int
 index:Int
 litres:Int
 outlet:Bool
 deriving Inhabited,DecidableEq
structure PrecedentsDecided where
 winner:Int
 facts:Int
 reason:Int
 deriving Inhabited,DecidableEq
structure Reason where
 literal:Int
 clause:Int
 proved:Bool
 deriving Inhabited,DecidableEq
structure TimetableSlot where
 index:Int
 hour:Int
 deriving Inhabited,DecidableEq
structure Tank where
 cap:Int
 start:Int
 deriving Inhabited,DecidableEq
structure District where
 name:ByteArray
 hours:Int
 tank:Tank
 reaches:List Reach
 farms:List Farm
 crops:List Crop
 rights:List Right
 duties:List Duty
 wells:List Well
 deriving Inhabited,DecidableEq
structure Cases where
 sides:List Int
 cases:List Case
 deriving Inhabited,DecidableEq
structure PrecedentsCourt where
 favour:Int×Int
 cases:List PrecedentsDecided
 deriving Inhabited,DecidableEq
structure PleasCourt where
 plea:Plea
 strict:List (Int×Bool)
 known:List (Int×Int)
 deriving Inhabited,DecidableEq
structure Fault where
 kind:Int
 hour:Int
 index:Int
 litres:Int
 limit:Int
 deriving Inhabited,DecidableEq
structure Acequiaref51State where
 strict:List Int
 proved:List Int
 refuted:List Int
 deriving Inhabited,DecidableEq
inductive Tag where
 |reach|farm|crop|right|duty|int|well|claim|judgement|case|clause|suit|bool|order|fnc|precedentsDecided|reason|int2|timetableSlot|tank|district|cases|plea|precedentsCourt|pleasCourt|fault|ratio|ratio2|range|acequiaref51State|str
 deriving DecidableEq
abbrev Tag.T:Tag->Type
 | .reach=>Reach| .farm=>Farm| .crop=>Crop| .right=>Right| .duty=>Duty| .int=>Int| .well=>Well| .claim=>Claim| .judgement=>Judgement| .case=>Case| .clause=>Clause| .suit=>Suit| .bool=>Bool| .order=>Order| .fnc=>Option Nat| .precedentsDecided=>PrecedentsDecided| .reason=>Reason| .int2=>Int×Int| .timetableSlot=>TimetableSlot| .tank=>Tank| .district=>District| .cases=>Cases| .plea=>Plea| .precedentsCourt=>PrecedentsCourt| .pleasCourt=>PleasCourt| .fault=>Fault| .ratio=>Ratio| .ratio2=>Ratio×Ratio| .range=>Range| .acequiaref51State=>Acequiaref51State| .str=>ByteArray
def Bg:Tag->Nat
 | .reach=>0| .farm=>1| .crop=>2| .right=>3| .duty=>4| .int=>5| .well=>6| .claim=>7| .judgement=>8| .case=>9| .clause=>10| .suit=>11| .bool=>12| .order=>13| .fnc=>14| .precedentsDecided=>15| .reason=>16| .int2=>17| .timetableSlot=>18| .tank=>19| .district=>20| .cases=>21| .plea=>22| .precedentsCourt=>23| .pleasCourt=>24| .fault=>25| .ratio=>26| .ratio2=>27| .range=>28| .acequiaref51State=>29| .str=>30
def rank:Tag->Nat
 | .reach=>0| .farm=>0| .crop=>0| .right=>0| .duty=>0| .int=>0| .well=>1| .claim=>0| .judgement=>0| .case=>1| .clause=>1| .suit=>2| .bool=>0| .order=>0| .fnc=>1| .precedentsDecided=>0| .reason=>0| .int2=>0| .timetableSlot=>0| .tank=>0| .district=>2| .cases=>2| .plea=>2| .precedentsCourt=>1| .pleasCourt=>2| .fault=>0| .ratio=>0| .ratio2=>0| .range=>0| .acequiaref51State=>1| .str=>0
def Tag.ofName:String->Option Tag
 | "api.Reach" =>some .reach
 | "api.Farm" =>some .farm
 | "api.Crop" =>some .crop
 | "api.Right" =>some .right
 | "api.Duty" =>some .duty
 | "api.Errno" =>some .int
 | "expand.refused" =>some .int
 | "int" =>some .int
 | "int64" =>some .int
 | "api.Well" =>some .well
 | "api.Claim" =>some .claim
 | "api.Judgement" =>some .judgement
 | "api.Case" =>some .case
 | "api.Clause" =>some .clause
 | "api.Suit" =>some .suit
 | "bool" =>some .bool
 | "api.Order" =>some .order
 | "func() bool" =>some .fnc
 | "func(api.Order) int" =>some .fnc
 | "func(judgement.docket, api.Judgement) judgement.docket" =>some .fnc
 | "precedents.decided" =>some .precedentsDecided
 | "api.Reason" =>some .reason
 | "[2]int" =>some .int2
 | "[2]precedents.set" =>some .int2
 | "timetable.slot" =>some .timetableSlot
 | "api.Tank" =>some .tank
 | "api.District" =>some .district
 | "api.Cases" =>some .cases
 | "api.Plea" =>some .plea
 | "precedents.court" =>some .precedentsCourt
 | "pleas.court" =>some .pleasCourt
 | "api.Fault" =>some .fault
 | "api.Ratio" =>some .ratio
 | "[2]api.Ratio" =>some .ratio2
 | "api.Range" =>some .range
 | "acequiaref51.state" =>some .acequiaref51State
 | "string" =>some .str
 |_=>none
instance instDecTag:(k:Tag)->DecidableEq k.T
 | .reach=>inferInstanceAs (DecidableEq (Reach))| .farm=>inferInstanceAs (DecidableEq (Farm))| .crop=>inferInstanceAs (DecidableEq (Crop))| .right=>inferInstanceAs (DecidableEq (Right))| .duty=>inferInstanceAs (DecidableEq (Duty))| .int=>inferInstanceAs (DecidableEq (Int))| .well=>inferInstanceAs (DecidableEq (Well))| .claim=>inferInstanceAs (DecidableEq (Claim))| .judgement=>inferInstanceAs (DecidableEq (Judgement))| .case=>inferInstanceAs (DecidableEq (Case))| .clause=>inferInstanceAs (DecidableEq (Clause))| .suit=>inferInstanceAs (DecidableEq (Suit))| .bool=>inferInstanceAs (DecidableEq (Bool))| .order=>inferInstanceAs (DecidableEq (Order))| .fnc=>inferInstanceAs (DecidableEq (Option Nat))| .precedentsDecided=>inferInstanceAs (DecidableEq (PrecedentsDecided))| .reason=>inferInstanceAs (DecidableEq (Reason))| .int2=>inferInstanceAs (DecidableEq (Int×Int))| .timetableSlot=>inferInstanceAs (DecidableEq (TimetableSlot))| .tank=>inferInstanceAs (DecidableEq (Tank))| .district=>inferInstanceAs (DecidableEq (District))| .cases=>inferInstanceAs (DecidableEq (Cases))| .plea=>inferInstanceAs (DecidableEq (Plea))| .precedentsCourt=>inferInstanceAs (DecidableEq (PrecedentsCourt))| .pleasCourt=>inferInstanceAs (DecidableEq (PleasCourt))| .fault=>inferInstanceAs (DecidableEq (Fault))| .ratio=>inferInstanceAs (DecidableEq (Ratio))| .ratio2=>inferInstanceAs (DecidableEq (Ratio×Ratio))| .range=>inferInstanceAs (DecidableEq (Range))| .acequiaref51State=>inferInstanceAs (DecidableEq (Acequiaref51State))| .str=>inferInstanceAs (DecidableEq (ByteArray))
structure Res where
 yv:Value
 n:Nat
 R:(Nat->Prop)->List Nat->World->Prop
 loc:∀ (F F':Nat->Prop) (bs:List Nat) (w w':World),R F bs w->w.heap.size<=w'.heap.size->(∀ b,b<w.heap.size->¬F b->w'.heap[b]? =w.heap[b]?)->(∀ b,b<w.heap.size->F' b->F b)->R F' bs w'
instance:Inhabited Res:=⟨⟨.nilFunc,0,fun _ _ _=>True,fun _ _ _ _ _ _ _ _ _=>trivial⟩⟩
inductive SV where
 |any
 |v (x:Value)
 |ptr (id off:Nat)
 |os (id:Nat)
 |e0
 |rp (sz id:Nat) (i:Int) (off:Nat)
 |gr (id:Nat) (i:Int)
 |gp (sz id:Nat) (i j:Int) (off:Nat)
 |ep (cells:List SV) (off:Nat)
 |rs (k:Tag) (l:List k.T)
 |ls (l:List SV)
 |rm (kk vk:Tag) (l:List (kk.T×vk.T))
 |agg (l:List SV)
 |tup (l:List SV)
 |fn (f:FuncId) (first caps:List SV)
 |nw (k:Tag) (l:List k.T)
 |nm (kk vk:Tag) (l:List (kk.T×vk.T))
 |ng (k:Tag) (l:List (List k.T))
 |gd (j:Nat) (want:Bool) (s:SV)
 |vw (sz id:Nat) (lo hi:Int)
 |rc (k:Tag) (l:List k.T)
 deriving Inhabited
abbrev SV.i (n:Int):SV:=.v (.int .i64 n)
abbrev SV.b (x:Bool):SV:=.v (.bool x)
abbrev SV.s (x:ByteArray):SV:=.v (.string x)
def fnV:Option Nat->SV|some f=>.fn f [] [] |none=>.v .nilFunc
def cellsOf:(k:Tag)->k.T->List SV
 | .reach,x=>[.v (.string x.name),.v (.int .i64 x.up),.v (.int .i64 x.delay),.v (.int .i64 x.cap),.v (.int .i64 x.bank),.v (.int .i64 x.siphon),.v (.int .i64 x.evap.lo),.v (.int .i64 x.evap.hi),.v (.int .i64 x.seep.1.n),.v (.int .i64 x.seep.1.d),.v (.int .i64 x.seep.2.n),.v (.int .i64 x.seep.2.d)]| .farm,x=>[.v (.string x.name),.v (.int .i64 x.reach),.v (.int .i64 x.area),.v (.int .i64 x.crop)]| .crop,x=>[.v (.string x.name),.v (.int .i64 x.need)]| .right,x=>[.v (.string x.name),.v (.int .i64 x.kind),.v (.int .i64 x.farm),.v (.int .i64 x.reach),.v (.int .i64 x.rank),.v (.int .i64 x.litres),.v (.int .i64 x.since),.v (.int .i64 x.to),.v (.int .i64 x.every),.v (.int .i64 x.length)]| .duty,x=>[.v (.string x.name),.v (.int .i64 x.farm),.v (.int .i64 x.reach),.v (.int .i64 x.due)]| .int,x=>[.v (.int .i64 x)]| .well,x=>[.v (.int .i64 x.farm),.v (.int .i64 x.reach),.v (.int .i64 x.d),.rs .int x.kernel]| .claim,x=>[.v (.int .i64 x.right),.v (.int .i64 x.farm),.v (.int .i64 x.hour),.v (.int .i64 x.litres),.v (.int .i64 x.rank)]| .judgement,x=>[.v (.int .i64 x.no),.v (.int .i64 x.hour),.v (.int .i64 x.kind),.v (.int .i64 x.farm),.v (.int .i64 x.other),.v (.int .i64 x.since),.v (.int .i64 x.to),.v (.int .i64 x.n),.v (.int .i64 x.of_)]| .case,x=>[.v (.int .i64 x.no),.v (.int .i64 x.hour),.v (.int .i64 x.winner),.rs .int x.facts,.rs .int x.reason]| .clause,x=>[.v (.int .i64 x.no),.v (.int .i64 x.then_),.v (.int .i64 x.rank),.v (.bool x.strict),.rs .int x.if_]| .suit,x=>[.v (.int .i64 x.no),.v (.int .i64 x.hour),.v (.int .i64 x.question),.rs .int x.plea.facts,.rs .clause x.plea.clauses,.rs .int x.facts]| .bool,x=>[.v (.bool x)]| .order,x=>[.v (.int .i64 x.hour),.v (.int .i64 x.index),.v (.int .i64 x.litres),.v (.bool x.outlet)]| .fnc,x=>[fnV x]| .precedentsDecided,x=>[.v (.int .i64 x.winner),.v (.int .u64 x.facts),.v (.int .u64 x.reason)]| .reason,x=>[.v (.int .i64 x.literal),.v (.int .i64 x.clause),.v (.bool x.proved)]| .int2,x=>[.v (.int .i64 x.1),.v (.int .i64 x.2)]| .timetableSlot,x=>[.v (.int .i64 x.index),.v (.int .i64 x.hour)]| .tank,x=>[.v (.int .i64 x.cap),.v (.int .i64 x.start)]| .district,x=>[.v (.string x.name),.v (.int .i64 x.hours),.v (.int .i64 x.tank.cap),.v (.int .i64 x.tank.start),.rs .reach x.reaches,.rs .farm x.farms,.rs .crop x.crops,.rs .right x.rights,.rs .duty x.duties,.rs .well x.wells]| .cases,x=>[.rs .int x.sides,.rs .case x.cases]| .plea,x=>[.rs .int x.facts,.rs .clause x.clauses]| .precedentsCourt,x=>[.v (.int .u64 x.favour.1),.v (.int .u64 x.favour.2),.rs .precedentsDecided x.cases]| .pleasCourt,x=>[.rs .int x.plea.facts,.rs .clause x.plea.clauses,.rm .int .bool x.strict,.rm .int .int x.known]| .fault,x=>[.v (.int .i64 x.kind),.v (.int .i64 x.hour),.v (.int .i64 x.index),.v (.int .i64 x.litres),.v (.int .i64 x.limit)]| .ratio,x=>[.v (.int .i64 x.n),.v (.int .i64 x.d)]| .ratio2,x=>[.v (.int .i64 x.1.n),.v (.int .i64 x.1.d),.v (.int .i64 x.2.n),.v (.int .i64 x.2.d)]| .range,x=>[.v (.int .i64 x.lo),.v (.int .i64 x.hi)]| .acequiaref51State,x=>[.rs .int x.strict,.rs .int x.proved,.rs .int x.refuted]| .str,x=>[.v (.string x)]
def ae:Tag->Nat
 | .reach=>12| .farm=>4| .crop=>2| .right=>10| .duty=>4| .int=>1| .well=>4| .claim=>5| .judgement=>9| .case=>5| .clause=>5| .suit=>6| .bool=>1| .order=>4| .fnc=>1| .precedentsDecided=>3| .reason=>3| .int2=>2| .timetableSlot=>2| .tank=>2| .district=>10| .cases=>2| .plea=>2| .precedentsCourt=>3| .pleasCourt=>4| .fault=>5| .ratio=>2| .ratio2=>4| .range=>2| .acequiaref51State=>3| .str=>1
theorem bv (k:Tag)(x:k.T):(cellsOf k x).length=ae k:=by cases k <;>rfl
def gz:(k:Tag)->k.T
 | .reach=>(default:Reach)| .farm=>(default:Farm)| .crop=>(default:Crop)| .right=>(default:Right)| .duty=>(default:Duty)| .int=>(0:Int)| .well=>(default:Well)| .claim=>(default:Claim)| .judgement=>(default:Judgement)| .case=>(default:Case)| .clause=>(default:Clause)| .suit=>(default:Suit)| .bool=>false| .order=>(default:Order)| .fnc=>(default:Option Nat)| .precedentsDecided=>(default:PrecedentsDecided)| .reason=>(default:Reason)| .int2=>(default:Int×Int)| .timetableSlot=>(default:TimetableSlot)| .tank=>(default:Tank)| .district=>(default:District)| .cases=>(default:Cases)| .plea=>(default:Plea)| .precedentsCourt=>(default:PrecedentsCourt)| .pleasCourt=>(default:PleasCourt)| .fault=>(default:Fault)| .ratio=>(default:Ratio)| .ratio2=>(default:Ratio×Ratio)| .range=>(default:Range)| .acequiaref51State=>(default:Acequiaref51State)| .str=>(ByteArray.mk #[])
inductive Kd where
 |s|b|n (k:IntKind) |r (k:Tag) |m (k k2:Tag) |f
def qz:Tag->Bool
 | .reach=>true| .farm=>true| .crop=>true| .right=>true| .duty=>true| .int=>false| .well=>true| .claim=>true| .judgement=>true| .case=>true| .clause=>true| .suit=>true| .bool=>false| .order=>true| .fnc=>false| .precedentsDecided=>true| .reason=>true| .int2=>true| .timetableSlot=>true| .tank=>true| .district=>true| .cases=>true| .plea=>true| .precedentsCourt=>true| .pleasCourt=>true| .fault=>true| .ratio=>true| .ratio2=>true| .range=>true| .acequiaref51State=>true| .str=>false
def Kb:(k:Tag)->List (List k.T)->SV
 |_,_=>.any
def eO:Tag->List Kd
 | .reach=>[.s,.n .i64,.n .i64,.n .i64,.n .i64,.n .i64,.n .i64,.n .i64,.n .i64,.n .i64,.n .i64,.n .i64]| .farm=>[.s,.n .i64,.n .i64,.n .i64]| .crop=>[.s,.n .i64]| .right=>[.s,.n .i64,.n .i64,.n .i64,.n .i64,.n .i64,.n .i64,.n .i64,.n .i64,.n .i64]| .duty=>[.s,.n .i64,.n .i64,.n .i64]| .int=>[.n .i64]| .well=>[.n .i64,.n .i64,.n .i64,.r .int]| .claim=>[.n .i64,.n .i64,.n .i64,.n .i64,.n .i64]| .judgement=>[.n .i64,.n .i64,.n .i64,.n .i64,.n .i64,.n .i64,.n .i64,.n .i64,.n .i64]| .case=>[.n .i64,.n .i64,.n .i64,.r .int,.r .int]| .clause=>[.n .i64,.n .i64,.n .i64,.b,.r .int]| .suit=>[.n .i64,.n .i64,.n .i64,.r .int,.r .clause,.r .int]| .bool=>[.b]| .order=>[.n .i64,.n .i64,.n .i64,.b]| .fnc=>[.f]| .precedentsDecided=>[.n .i64,.n .u64,.n .u64]| .reason=>[.n .i64,.n .i64,.b]| .int2=>[.n .i64,.n .i64]| .timetableSlot=>[.n .i64,.n .i64]| .tank=>[.n .i64,.n .i64]| .district=>[.s,.n .i64,.n .i64,.n .i64,.r .reach,.r .farm,.r .crop,.r .right,.r .duty,.r .well]| .cases=>[.r .int,.r .case]| .plea=>[.r .int,.r .clause]| .precedentsCourt=>[.n .u64,.n .u64,.r .precedentsDecided]| .pleasCourt=>[.r .int,.r .clause,.m .int .bool,.m .int .int]| .fault=>[.n .i64,.n .i64,.n .i64,.n .i64,.n .i64]| .ratio=>[.n .i64,.n .i64]| .ratio2=>[.n .i64,.n .i64,.n .i64,.n .i64]| .range=>[.n .i64,.n .i64]| .acequiaref51State=>[.r .int,.r .int,.r .int]| .str=>[.s]
def toI:SV->Int| .v (.int _ n) =>n|_=>0
def toB:SV->Bool| .v (.bool b) =>b|_=>false
def toS:SV->ByteArray| .v (.string s) =>s|_=>ByteArray.mk #[]
def toF:SV->Option Nat| .fn f [] [] =>some f|_=>none
def Cr:SV->List Reach| .rs .reach l=>l|_=>[]
def Eu:SV->List Farm| .rs .farm l=>l|_=>[]
def Ev:SV->List Crop| .rs .crop l=>l|_=>[]
def Cs:SV->List Right| .rs .right l=>l|_=>[]
def Ew:SV->List Duty| .rs .duty l=>l|_=>[]
def nj:SV->List Int| .rs .int l=>l|_=>[]
def Ey:SV->List Well| .rs .well l=>l|_=>[]
def Hl:SV->List Claim| .rs .claim l=>l|_=>[]
def Ac:SV->List Judgement| .rs .judgement l=>l|_=>[]
def Ez:SV->List Case| .rs .case l=>l|_=>[]
def um:SV->List Clause| .rs .clause l=>l|_=>[]
def Kc:SV->List Suit| .rs .suit l=>l|_=>[]
def Ke:SV->List Bool| .rs .bool l=>l|_=>[]
def Hm:SV->List Order| .rs .order l=>l|_=>[]
def NV:SV->List (Option Nat) | .rs .fnc l=>l|_=>[]
def mO:SV->List PrecedentsDecided| .rs .precedentsDecided l=>l|_=>[]
def EA:SV->List Reason| .rs .reason l=>l|_=>[]
def Kf:SV->List (Int×Int) | .rs .int2 l=>l|_=>[]
def vr:SV->List TimetableSlot| .rs .timetableSlot l=>l|_=>[]
def Kg:SV->List Tank| .rs .tank l=>l|_=>[]
def Bh:SV->List District| .rs .district l=>l|_=>[]
def Hn:SV->List Cases| .rs .cases l=>l|_=>[]
def Kh:SV->List Plea| .rs .plea l=>l|_=>[]
def tF:SV->List PrecedentsCourt| .rs .precedentsCourt l=>l|_=>[]
def yw:SV->List PleasCourt| .rs .pleasCourt l=>l|_=>[]
def Ho:SV->List Fault| .rs .fault l=>l|_=>[]
def Hq:SV->List Ratio| .rs .ratio l=>l|_=>[]
def EB:SV->List (Ratio×Ratio) | .rs .ratio2 l=>l|_=>[]
def Hr:SV->List Range| .rs .range l=>l|_=>[]
def rE:SV->List Acequiaref51State| .rs .acequiaref51State l=>l|_=>[]
def NW:SV->List ByteArray| .rs .str l=>l|_=>[]
def xr:SV->List (Int×Bool) | .rm .int .bool l=>l|_=>[]
def yx:SV->List (Int×Int) | .rm .int .int l=>l|_=>[]
def at0:List SV->Nat->SV
 | [],_=>.any|x::_,0=>x|_::r,n+1=>at0 r n
def mkE:(k:Tag)->List SV->k.T
 | .reach,l=>(⟨toS (at0 l 0),toI (at0 l 1),toI (at0 l 2),toI (at0 l 3),toI (at0 l 4),toI (at0 l 5),⟨toI (at0 l 6),toI (at0 l 7)⟩,(⟨toI (at0 l 8),toI (at0 l 9)⟩,⟨toI (at0 l 10),toI (at0 l 11)⟩)⟩:Reach)| .farm,l=>(⟨toS (at0 l 0),toI (at0 l 1),toI (at0 l 2),toI (at0 l 3)⟩:Farm)| .crop,l=>(⟨toS (at0 l 0),toI (at0 l 1)⟩:Crop)| .right,l=>(⟨toS (at0 l 0),toI (at0 l 1),toI (at0 l 2),toI (at0 l 3),toI (at0 l 4),toI (at0 l 5),toI (at0 l 6),toI (at0 l 7),toI (at0 l 8),toI (at0 l 9)⟩:Right)| .duty,l=>(⟨toS (at0 l 0),toI (at0 l 1),toI (at0 l 2),toI (at0 l 3)⟩:Duty)| .int,l=>(toI (at0 l 0):Int)| .well,l=>(⟨toI (at0 l 0),toI (at0 l 1),toI (at0 l 2),nj (at0 l 3)⟩:Well)| .claim,l=>(⟨toI (at0 l 0),toI (at0 l 1),toI (at0 l 2),toI (at0 l 3),toI (at0 l 4)⟩:Claim)| .judgement,l=>(⟨toI (at0 l 0),toI (at0 l 1),toI (at0 l 2),toI (at0 l 3),toI (at0 l 4),toI (at0 l 5),toI (at0 l 6),toI (at0 l 7),toI (at0 l 8)⟩:Judgement)| .case,l=>(⟨toI (at0 l 0),toI (at0 l 1),toI (at0 l 2),nj (at0 l 3),nj (at0 l 4)⟩:Case)| .clause,l=>(⟨toI (at0 l 0),toI (at0 l 1),toI (at0 l 2),toB (at0 l 3),nj (at0 l 4)⟩:Clause)| .suit,l=>(⟨toI (at0 l 0),toI (at0 l 1),toI (at0 l 2),⟨nj (at0 l 3),um (at0 l 4)⟩,nj (at0 l 5)⟩:Suit)| .bool,l=>(toB (at0 l 0):Bool)| .order,l=>(⟨toI (at0 l 0),toI (at0 l 1),toI (at0 l 2),toB (at0 l 3)⟩:Order)| .fnc,l=>(toF (at0 l 0):Option Nat)| .precedentsDecided,l=>(⟨toI (at0 l 0),toI (at0 l 1),toI (at0 l 2)⟩:PrecedentsDecided)| .reason,l=>(⟨toI (at0 l 0),toI (at0 l 1),toB (at0 l 2)⟩:Reason)| .int2,l=>((toI (at0 l 0),toI (at0 l 1)):Int×Int)| .timetableSlot,l=>(⟨toI (at0 l 0),toI (at0 l 1)⟩:TimetableSlot)| .tank,l=>(⟨toI (at0 l 0),toI (at0 l 1)⟩:Tank)| .district,l=>(⟨toS (at0 l 0),toI (at0 l 1),⟨toI (at0 l 2),toI (at0 l 3)⟩,Cr (at0 l 4),Eu (at0 l 5),Ev (at0 l 6),Cs (at0 l 7),Ew (at0 l 8),Ey (at0 l 9)⟩:District)| .cases,l=>(⟨nj (at0 l 0),Ez (at0 l 1)⟩:Cases)| .plea,l=>(⟨nj (at0 l 0),um (at0 l 1)⟩:Plea)| .precedentsCourt,l=>(⟨(toI (at0 l 0),toI (at0 l 1)),mO (at0 l 2)⟩:PrecedentsCourt)| .pleasCourt,l=>(⟨⟨nj (at0 l 0),um (at0 l 1)⟩,xr (at0 l 2),yx (at0 l 3)⟩:PleasCourt)| .fault,l=>(⟨toI (at0 l 0),toI (at0 l 1),toI (at0 l 2),toI (at0 l 3),toI (at0 l 4)⟩:Fault)| .ratio,l=>(⟨toI (at0 l 0),toI (at0 l 1)⟩:Ratio)| .ratio2,l=>((⟨toI (at0 l 0),toI (at0 l 1)⟩,⟨toI (at0 l 2),toI (at0 l 3)⟩):Ratio×Ratio)| .range,l=>(⟨toI (at0 l 0),toI (at0 l 1)⟩:Range)| .acequiaref51State,l=>(⟨nj (at0 l 0),nj (at0 l 1),nj (at0 l 2)⟩:Acequiaref51State)| .str,l=>(toS (at0 l 0):ByteArray)
def kN:IntKind->Nat
 | .i8=>0| .i16=>1| .i32=>2| .i64=>3| .u8=>4| .u16=>5| .u32=>6| .u64=>7
def fit:Kd->SV->Bool
 | .s,.v (.string _) =>true| .b,.v (.bool _) =>true| .n k,.v (.int k' _) =>Nat.beq (kN k) (kN k')| .r k,.rs k' _=>Nat.beq (Bg k) (Bg k')| .m k k2,.rm k' k2' _=>Nat.beq (Bg k) (Bg k')&&Nat.beq (Bg k2) (Bg k2')| .f,.fn _ [] [] =>true| .f,.v .nilFunc=>true|_,_=>false
def wz:List Kd->List SV->Bool
 | [],[] =>true|k::ks,x::xs=>fit k x&&wz ks xs|_,_=>false
def Ki:Kd->SV->SV
 | .r k,.v (.slice none 0 0) =>.rs k []| .r k,.e0=>.rs k []| .m k k2,.v (.map none) =>.rm k k2 []|_,s=>s
def zT:List Kd->List SV->List SV
 |k::ks,s::r=>Ki k s::zT ks r|_,l=>l
def wA (k:Tag)(l:List SV):Option k.T:=bif wz (eO k) l then some (mkE k l)else none
def qA (k:Tag)(l:List SV):Option k.T:=wA k (zT (eO k) l)
inductive Pk where
 |st (k:Tag)
 |sl (k:Tag)
 |mp (k k2:Tag)
 |o
def Ct:Pk->SV->SV
 | .st k,.agg l=>.agg (zT (eO k) l)| .sl k,s=>Ki (.r k) s| .mp k k2,s=>Ki (.m k k2) s|_,s=>s
def bD:List Pk->List SV->List SV
 |p::ps,s::r=>Ct p s::bD ps r|_,l=>l
structure TI where
 size:Nat
 bytes:Nat
 agg:Bool
 zero:List SV
 fields:List (Nat×Nat×Bool)
 elem:Nat
 len:Nat
 isSlice:Bool
 isArr:Bool
 tag:Option Tag
 int:Option IntKind
 iface:Bool
 eq:List Nat
 mkt:Option Tag
 mvt:Option Tag
 sc:Nat
def svs (v:Value):List SV:=v.cells.toList.map .v
def qk (P:Program)(t:TypeId):Nat:=match P.info? t with|some i=>i.size|none=>0
def lY (P:Program)(t:TypeId):Bool:=match P.underlying t with|some (.struct _) =>true|some (.array _ _) =>true|_=>false
def b9:Option TypeDesc->Nat
 |some (.int _) =>1|some .string=>2|some .bool=>3|_=>0
def eqFields (P:Program):Nat->List Field->Bool
 |_,[] =>true
 |n,f::r=>(f.name != "_")&&Nat.beq f.offset n&&Nat.blt 0 (b9 (P.underlying f.type))&&eqFields P (n+1) r
def pQ (P:Program)(t:TypeId)(d:TypeDesc):List Nat:=match d with
 | .struct fs=>bif !P.stoodInHeld t&& !P.eqGuardType P.depth t&&eqFields P 0 fs.toList then fs.toList.map fun f=>b9 (P.underlying f.type)else []
 | .array n e=>bif !P.eqGuardType P.depth t&&Nat.blt 0 (b9 (P.underlying e))&&Nat.beq (qk P e) 1 then List.replicate n (b9 (P.underlying e))else []|_=>[]
def sI (P:Program)(t:TypeId):List Nat:=match P.underlying t with
 |some (.struct gs) =>bif !P.stoodInHeld t&&eqFields P 0 gs.toList&&Nat.beq (qk P t) gs.size&&(P.info? t).isSome then gs.toList.map fun f=>b9 (P.underlying f.type)else []
 |d=>bif Nat.blt 0 (b9 d)then [b9 d]else []
def wB (P:Program):Nat->List Field->Bool
 |_,[] =>true
 |n,f::r=>(f.name != "_")&&Nat.beq f.offset n&&Nat.blt 0 (sI P f.type).length&&wB P (n+(sI P f.type).length) r
def IP (P:Program)(t:TypeId)(d:TypeDesc):List Nat:=match d with
 | .struct fs=>bif !P.stoodInHeld t&& !P.eqGuardType P.depth t&&wB P 0 fs.toList then fs.toList.flatMap fun f=>sI P f.type else []
 |_=>[]
def RB (P:Program)(t:TypeId)(d:TypeDesc):List Nat:=match pQ P t d with
 | [] =>IP P t d|l=>l
def NX:SV->SV->Bool
 | .v (.int k a),.v (.int k' b) =>Nat.beq (kN k) (kN k')&&(match a,b with| .ofNat 0,.ofNat 0=>true|_,_=>false)
 | .v (.string a),.v (.string b) =>Nat.beq a.size 0&&Nat.beq b.size 0| .v (.bool false),.v (.bool false) =>true| .rs _ [],.v (.slice none 0 0) =>true| .rm _ _ [],.v (.map none) =>true| .v .nilFunc,.v .nilFunc=>true|_,_=>false
def xu:List SV->List SV->Bool
 | [],[] =>true|a::r,b::s=>NX a b&&xu r s|_,_=>false
def Cu:Bool->Bool->Bool
 |true,true=>true|false,false=>true|_,_=>false
def EC:Value->Bool
 | .agg _=>true|_=>false
def ED (P:Program)(t:TypeId)(i:TypeInfo)(k:Tag):Bool:=
 (match i.zero with|some z=>Cu (EC z) (qz k) |none=>false)&&Nat.beq i.size (ae k)&&Nat.ble 1 i.bytes&&xu (cellsOf k (gz k)) (match i.zero with|some z=>svs z|none=>[])&&Cu (lY P t) (qz k)
def Ad (P:Program)(t:TypeId)(i:TypeInfo):Option Tag:=match Tag.ofName i.str with|some k=>bif ED P t i k then some k else none|none=>none
def Kj (P:Program)(t:TypeId):Option Tag:=match P.info? t with|some i=>Ad P t i|none=>none
def j6:Kd->Nat
 | .n _=>1| .s=>2| .b=>3|_=>0
def EE:List Nat->List Nat->Bool
 | [],[] =>true|a::r,b::s=>Nat.beq a b&&EE r s|_,_=>false
def Mh (P:Program)(t:TypeId)(k:Tag):Bool:=match P.underlying t with
 |some d=>bif lY P t then EE ((eO k).map j6) (pQ P t d)&&Nat.blt 0 (eO k).length else EE ((eO k).map j6) [b9 (some d)]&&Nat.blt 0 (b9 (some d))|none=>false
def Kk (P:Program)(t:TypeId):Option Tag:=match Kj P t with|some k=>bif Mh P t k then some k else none|none=>none
def dN (P:Program)(t:TypeId)(i:TypeInfo)(d:TypeDesc):TI:=
 {size:=i.size
  bytes:=i.bytes
  agg:=lY P t
  zero:=match i.zero with|some z=>svs z|none=>[]
  fields:=match d with| .struct fs=>fs.toList.map fun f=>(f.offset,qk P f.type,lY P f.type) |_=>[]
  elem:=match d with| .slice e=>e| .array _ e=>e| .map _ e=>e|_=>0
  len:=match d with| .array n _=>n|_=>0
  isSlice:=match d with| .slice _=>true|_=>false
  isArr:=match d with| .array _ _=>true|_=>false
  tag:=Ad P t i
  int:=match d with| .int k=>some k|_=>none
  iface:=match d with| .interface _=>true|_=>false
  eq:=RB P t d
  mkt:=match d with| .map k _=>Kk P k|_=>none
  mvt:=match d with| .map _ e=>Kj P e|_=>none
  sc:=b9 (some d)}
def Bi (P:Program)(d:TypeDesc):Bool:=match d with| .struct fs=>fs.toList.all fun f=>(P.info? f.type).isSome&&(P.underlying f.type).isSome|_=>true
def cw (P:Program)(t:TypeId):Option TI:=
 match P.info? t,P.underlying t with
 |some i,some d=>bif i.zero.isSome&&Bi P d then some (dN P t i d)else none|_,_=>none
abbrev Tis:=TypeId->Option TI
def Tis.ok (ts:Tis)(P:Program):Prop:= ∀ t i,ts t=some i->cw P t=some i
inductive Ob where
 |cells (l:List SV)
 |dead
 |row (k:Tag) (l:List k.T)
 |mp (kk vk:Tag) (l:List (kk.T×vk.T)) (pend:Option (Nat×Option kk.T))
 |grid (k:Tag) (l:List (List k.T))
 |ab (r:Res)
 |raw (o:Obj)
 |mi (mid:Option Nat) (n:Nat) (left:List Nat) (cur:Option Nat)
 |fwd (n:Option Nat)
 |fz (k:Tag) (l:List k.T)
instance:Inhabited Ob:=⟨.dead⟩
structure St where
 t:List (Nat×SV)
 h:List Ob
 deriving Inhabited
def lk (t:Nat):List (Nat×SV)->SV
 | [] =>.any|(a,s)::r=>bif Nat.beq a t then s else lk t r
def St.put (st:St)(d:Option Nat)(s:SV):St:=match d with|some d=>⟨(d,s)::st.t,st.h⟩ |none=>st
def ar:List Ob->Nat->Ob
 | [],_=>.dead|o::_,0=>o|_::r,n+1=>ar r n
def bM:List Ob->Nat->Ob->List Ob
 | [],0,x=>[x]| [],n+1,x=>.dead::bM [] n x|_::r,0,x=>x::r|o::r,n+1,x=>o::bM r n x
abbrev Up:=Nat×Ob
def noE {κ:Type}:Option (Nat×Option κ)->Bool
 |some (_,some _) =>false|_=>true
def ba (h:List Ob):List Up->List Ob
 | [] =>h|(id,o)::r=>ba (bM h id o) r
inductive Con where
 |det (pre:Prop) (s:SV)
 |rel (α:Type) (pre:Prop) (post:α->Prop) (out:α->SV)
 |may (ok:Bool) (s:SV) (x:Value)
inductive Rs where
 |ret (s:SV) (h:List Ob)
 |pan (x:Value) (h:List Ob)
structure HCon where
 α:Type
 pre:Prop
 post:α->Prop
 res:α->Rs
structure YCon where
 α:Type
 pre:Prop
 post:α->Prop
 res:α->Bool×Res
structure Cons where
 p:FuncId->List SV->Option Con
 o:FuncId->List SV->List Ob->Option HCon
 y:List SV->Res->Option YCon
def rB:SV->Option (List SV)
 | .agg l=>some l| .v (.agg cs) =>some (cs.toList.map .v)| .v (.tuple _) =>none| .any=>none| .tup _=>none| .gd .. =>none| .nw .. =>none| .nm .. =>none| .ng .. =>none|s=>some [s]
def nth {α:Type}:List α->Nat->Option α
 | [],_=>none|x::_,0=>some x|_::r,n+1=>nth r n
def cut:Nat->List SV->List SV
 |0,_=>[]|_+1,[] =>[]|n+1,x::r=>x::cut n r
def Kl:Nat->List SV->List SV
 |0,l=>l|_+1,[] =>[]|n+1,_::r=>Kl n r
def sz:List SV->Nat
 | [] =>0|_::r=>sz r+1
def td (agg:Bool)(size:Nat)(cells:List SV)(off:Nat):Option SV:=
 bif agg then(bif Nat.ble (off+size) (sz cells)then some (.agg (cut size (Kl off cells)))else none)
 else nth cells off
def EF:List SV->Nat->SV->List SV
 | [],_,_=>[]|_::r,0,s=>s::r|x::r,n+1,s=>x::EF r n s
def iH (cells:List SV)(off:Nat):List SV->List SV
 | [] =>cells|x::xs=>iH (EF cells off x) (off+1) xs
section
variable {κ υ:Type}
def jn [DecidableEq κ]:List (κ×υ)->κ->Option υ
 | [],_=>none|(a,b)::r,x=>if x=a then some b else jn r x
def tT [DecidableEq κ]:List (κ×υ)->κ->υ->List (κ×υ)
 | [],x,y=>[(x,y)]|(a,b)::r,x,y=>if x=a then(x,y)::r else(a,b)::tT r x y
def Mi [DecidableEq κ]:List (κ×υ)->κ->Nat
 | [],_=>0|(a,_)::r,x=>if x=a then 0 else Mi r x+1
end
def aZ (kk vk:Tag)(l:List (kk.T×vk.T))(x:kk.T):vk.T:=(jn l x).getD (gz vk)
def NY (kk vk:Tag)(l:List (kk.T×vk.T))(x:kk.T):Bool:=(jn l x).isSome
def fN (kk vk:Tag)(l:List (kk.T×vk.T))(x:kk.T)(y:vk.T):List (kk.T×vk.T):=tT l x y
def DM {κ υ:Type}[DecidableEq κ]:List (κ×υ)->κ->List (κ×υ)
 | [],_=>[]|(a,b)::r,x=>if x=a then r else(a,b)::DM r x
def Bj (kk vk:Tag)(l:List (kk.T×vk.T))(x:kk.T):List (kk.T×vk.T):=DM l x
def wC (kk vk:Tag)(l:List (kk.T×vk.T))(x:kk.T):Nat:=Mi l x
def ac8 (kk vk:Tag)(l:List (kk.T×vk.T))(x:kk.T):Option kk.T:=if(jn l x).isSome then none else some x
def svT (k:Tag)(x:k.T):SV:=bif qz k then .agg (cellsOf k x)else(nth (cellsOf k x) 0).getD .any
def Dj (k:Tag):Option (List SV)->Option k.T
 |some l=>qA k l|none=>none
def Bk:SV->Option (List SV)
 | .agg l=>some l| .v (.agg cs) =>some (cs.toList.map .v)|_=>none
def Cv:SV->Option (List SV)
 | .agg _=>none| .v (.agg _) =>none|s=>rB s
def unT (k:Tag)(s:SV):Option k.T:=bif qz k then Dj k (Bk s)else Dj k (Cv s)
inductive OR where
 |val (s:SV)
 |chk (c:Prop) (s:SV)
 |asm (c:Prop) (s:SV)
 |newr (s:SV)
 |eff (c a:Prop) (ups:List Up) (s:SV)
 |call (f:FuncId) (args:List SV)
 |yld (id:Nat) (args:List SV)
 |nxt (id:Nat)
 |amb (p:Bool->Prop)
 |pan (x:Value)
 |bad
structure Cx where
 ts:Tis
 ops:List Oper
 g:Option (Nat×Bool)
 st:St
 nx:Nat
def sr (ops:List Oper):Nat->Option (Nat×Bool)->Nat->Bool->Bool
 |0,_,_,_=>false|_+1,none,_,_=>false|n+1,some (j,b),j',b'=>bif Nat.beq j j'&&Cu b b' then true else sr ops n ((nth ops j).bind (·.guard)) j' b'
def bu (ops:List Oper)(g:Option (Nat×Bool)):SV->SV
 | .gd j b s=>bif sr ops ops.length g j b then s else .any| .any=>.any| .v x=>.v x| .ptr a b=>.ptr a b| .os a=>.os a| .e0=>.e0| .rc a b=>.rc a b| .rp a b c d=>.rp a b c d| .gr a b=>.gr a b| .gp a b c d e=>.gp a b c d e| .ep a b=>.ep a b| .rs k l=>.rs k l| .ls l=>.ls l| .rm k k2 l=>.rm k k2 l| .agg l=>.agg l| .tup l=>.tup l| .fn f l m=>.fn f l m| .nw k l=>.nw k l| .nm k k2 l=>.nm k k2 l| .ng k l=>.ng k l| .vw a b c d=>.vw a b c d
def raw (t:List (Nat×SV)):Operand->SV
 | .tmp n=>lk n t| .const x=>.v x| .func f=>.fn f [] []| .global _=>.any
def val (cx:Cx)(x:Operand):SV:=bu cx.ops cx.g (raw cx.st.t x)
def df (cx:Cx):List Operand->List SV
 | [] =>[]|x::r=>val cx x::df cx r
def qB (cx:Cx):Option Operand->Option SV
 |some x=>some (val cx x)|none=>none
def jw (cx:Cx):List (Nat×Operand)->List (Nat×SV)
 | [] =>[]|(i,x)::r=>(i,val cx x)::jw cx r
def isTrue:Operand->Bool
 | .const (.bool true) =>true|_=>false
def isFalse:Operand->Bool
 | .const (.bool false) =>true|_=>false
def Hs (ops:List Oper)(j:Nat)(c:Operand):Bool:=
 match (nth ops j).bind (·.dst),c with
 |some d,.tmp t=>Nat.beq d t|_,_=>false
def mw (ops:List Oper)(g:Option (Nat×Bool))(c:Operand)(want:Bool):SV->SV
 | .gd j b s=>bif Cu b want&&Hs ops j c then s else bu ops g (.gd j b s)|s=>bu ops g s
def EG (a b:Operand):SV->SV->SV->OR
 | .v (.bool x),.v (.bool y),.v (.bool z) =>bif isTrue a then .val (.b (x||z))else bif isFalse b then .val (.b (x&&y))else .bad| .v (.bool x),.any,.v (.bool z) =>.chk (x=false) (.b z)| .v (.bool x),.v (.bool y),.any=>.chk (x=true) (.b y)|_,_,_=>.bad
def RD (k:IntKind)(a b:Int):Int:=a.fdiv (2 ^ min b.toNat k.bits)
def Vy (k:IntKind)(a b:Int):Int:=k.wrap (a*2 ^ min b.toNat k.bits)
def Km (k:IntKind)(a b:Int):Int:=k.wrap ((BitVec.ofInt k.bits a&&&BitVec.ofInt k.bits b).toNat:Int)
def orI (k:IntKind)(a b:Int):Int:=k.wrap ((BitVec.ofInt k.bits a|||BitVec.ofInt k.bits b).toNat:Int)
def ac9 (k:IntKind)(a b:Int):Int:=k.wrap ((BitVec.ofInt k.bits a ^^^ BitVec.ofInt k.bits b).toNat:Int)
def Bl (k:IntKind)(a b:Int):Int:=k.wrap ((BitVec.ofInt k.bits a&&& ~~~(BitVec.ofInt k.bits b)).toNat:Int)
def wD (op:BinOp)(k:IntKind)(a b:Int):OR:=
 match op with
 | .add=>.val (.v (.int k (k.wrap (a+b))))| .sub=>.val (.v (.int k (k.wrap (a - b))))| .mul=>.val (.v (.int k (k.wrap (a*b))))| .quo=>.chk (b≠0) (.v (.int k (k.wrap (a.tdiv b))))| .rem=>.chk (b≠0) (.v (.int k (a.tmod b)))| .shr=>.chk (0<=b) (.v (.int k (RD k a b)))| .shl=>.chk (0<=b) (.v (.int k (Vy k a b)))| .and=>.val (.v (.int k (Km k a b)))| .or=>.val (.v (.int k (orI k a b)))| .xor=>.val (.v (.int k (ac9 k a b)))| .andNot=>.val (.v (.int k (Bl k a b)))| .eql=>.val (.v (.bool (a==b)))| .neq=>.val (.v (.bool (a !=b)))| .lss=>.val (.v (.bool (decide (a<b))))| .leq=>.val (.v (.bool (decide (a<=b))))| .gtr=>.val (.v (.bool (decide (a > b))))| .geq=>.val (.v (.bool (decide (a>=b))))
def NZ (op:BinOp)(a b:ByteArray):OR:=
 match op with
 | .eql=>.val (.v (.bool (a==b)))| .neq=>.val (.v (.bool (a !=b)))|_=>.bad
def IQ (op:BinOp)(a b:Bool):OR:=
 match op with
 | .eql=>.val (.v (.bool (a==b)))| .neq=>.val (.v (.bool (a !=b)))|_=>.bad
def eqV (c:Nat):SV->SV->Option Bool
 | .v (.int k a),.v (.int k' b) =>bif Nat.beq c 1&&Nat.beq (kN k) (kN k')then some (a==b)else none| .v (.string a),.v (.string b) =>bif Nat.beq c 2 then some (a==b)else none| .v (.bool a),.v (.bool b) =>bif Nat.beq c 3 then some (a==b)else none|_,_=>none
def AC:Option Bool->Option Bool->Option Bool
 |some a,some b=>some (a&&b)|_,_=>none
def eqL:List Nat->List SV->List SV->Option Bool
 | [],[],[] =>some true|c::cs,x::r,y::s=>AC (eqV c x y) (eqL cs r s)|_,_,_=>none
def eqO (op:BinOp):Option Bool->OR
 |some b=>match op with| .eql=>.val (.v (.bool b)) | .neq=>.val (.v (.bool !b)) |_=>.bad
 |none=>.bad
def YV (op:BinOp)(l m:List SV):List Nat->OR
 | [] =>.bad|c::cs=>eqO op (eqL (c::cs) l m)
def aG (ts:Tis)(t:TypeId)(k:TI->OR):OR:=match ts t with|some i=>k i|none=>.bad
def eqT (op:BinOp)(l m:List SV)(ti:TI):OR:=YV op l m ti.eq
def Dk (op:BinOp)(k k':IntKind):Bool:=
 match op with
 | .shl=>true| .shr=>true|_=>Nat.beq (kN k) (kN k')
def YW (op:BinOp):SV->SV->OR
 | .v (.int k a),.v (.int k' b) =>bif Dk op k k' then wD op k a b else .bad|_,_=>.bad
def Vz (op:BinOp)(p:Prop):OR:=
 match op with
 | .eql=>.amb fun b=>b=true->p
 | .neq=>.amb fun b=>b=false->p
 |_=>.bad
def eqS (op:BinOp)(ti:TI):SV->SV->OR
 | .rs _ l,.v (.slice none 0 0) =>bif ti.isSlice then Vz op (l=[])else .bad| .v (.string a),.v (.string b) =>bif Nat.beq ti.sc 2 then NZ op a b else .bad| .v (.bool a),.v (.bool b) =>bif Nat.beq ti.sc 3 then IQ op a b else .bad| .agg l,.agg m=>eqT op l m ti|_,_=>.bad
def IR (ts:Tis)(op:BinOp)(t:TypeId):SV->SV->OR
 | .v (.int k a),.v (.int k' b) =>YW op (.v (.int k a)) (.v (.int k' b))
 |a,b=>aG ts t fun ti=>eqS op ti a b
def unS:UnOp->SV->OR
 | .not,.v (.bool b) =>.val (.v (.bool !b))| .neg,.v (.int k n) =>.val (.v (.int k (k.wrap (0 - n))))|_,_=>.bad
def wE:Option SV->OR
 |some s=>.val s|none=>.bad
def EH (agg:Bool)(size szt:Nat)(id:Nat)(i:Int)(off:Nat):Ob->OR
 | .row k l=>bif Nat.beq szt (ae k)then wE (td agg size (cellsOf k (l.getD i.toNat (gz k))) off)else .bad| .grid _ _=>bif Nat.beq szt 1&&Nat.beq off 0&& !agg then .val (.gr id i)else .bad|_=>.bad
def Cw (agg:Bool)(size szt:Nat)(i j:Int)(off:Nat):Ob->OR
 | .grid k l=>bif Nat.beq szt (ae k)then wE (td agg size (cellsOf k ((l.getD i.toNat []).getD j.toNat (gz k))) off)else .bad|_=>.bad
def Bm (agg:Bool)(size off:Nat):Ob->OR
 | .cells l=>wE (td agg size l off)|_=>.bad
def sJ (ti:TI)(h:List Ob):SV->OR
 | .ptr id off=>Bm ti.agg ti.size off (ar h id)| .ep l off=>wE (td ti.agg ti.size l off)| .rp s id i off=>EH ti.agg ti.size s id i off (ar h id)| .gp s id i j off=>Cw ti.agg ti.size s i j off (ar h id)|_=>.bad
def Bn (n:Nat):SV->OR
 | .ptr id off=>.val (.ptr id (off+n))| .ep l off=>.val (.ep l (off+n))| .rp s id i off=>.val (.rp s id i (off+n))| .gp s id i j off=>.val (.gp s id i j (off+n))|_=>.bad
def EI (esz id:Nat)(i:Int):Ob->OR
 | .row k l=>bif Nat.beq esz (ae k)then .chk (0<=i/\i< (l.length:Int)) (.rp esz id i 0)else .bad| .grid _ l=>bif Nat.beq esz 1 then .chk (0<=i/\i< (l.length:Int)) (.rp 1 id i 0)else .bad|_=>.bad
def IS (esz id:Nat)(i j:Int):Ob->OR
 | .grid k l=>bif Nat.beq esz (ae k)then .chk (0<=j/\j< ((l.getD i.toNat []).length:Int)) (.gp esz id i j 0)else .bad|_=>.bad
def Mj (i:Int):Option SV->OR
 |some s=>.chk (0<=i) (.ep [s] 0)|none=>.bad
def i7 (ti:TI)(esz:Nat)(h:List Ob):SV->SV->OR
 | .rs k l,.v (.int _ i) =>bif ti.isSlice&&Nat.beq esz (ae k)then .chk (0<=i/\i< (l.length:Int)) (.ep (cellsOf k (l.getD i.toNat (gz k))) 0)else .bad| .os id,.v (.int _ i) =>bif ti.isSlice then EI esz id i (ar h id)else .bad| .gr id i,.v (.int _ j) =>bif ti.isSlice then IS esz id i j (ar h id)else .bad| .ls l,.v (.int _ i) =>bif ti.isSlice&&Nat.beq esz 1 then Mj i (nth l i.toNat)else .bad| .ptr id off,.v (.int _ i) =>bif ti.isArr then .chk (0<=i/\i< (ti.len:Int)) (.ptr id (off+i.toNat*esz))else .bad| .ep l off,.v (.int _ i) =>bif ti.isArr then .chk (0<=i/\i< (ti.len:Int)) (.ep l (off+i.toNat*esz))else .bad| .rp s id i off,.v (.int _ j) =>bif ti.isArr then .chk (0<=j/\j< (ti.len:Int)) (.rp s id i (off+j.toNat*esz))else .bad|_,_=>.bad
def nK (place:Nat->Option (Nat×Nat))(cells:List SV):List (Nat×SV)->Option (List SV)
 | [] =>some cells
 |(i,v)::rest=>
  match place i,rB v with
  |some (off,size),some vs=>bif Nat.beq (sz vs) size&&Nat.ble (off+size) (sz cells)then nK place (iH cells off vs) rest else none|_,_=>none
def tG (k:Tag)(size:Nat):Nat->List SV->Option (List k.T)
 |0,_=>some []
 |n+1,cells=>match qA k (cut size cells),tG k size n (Kl size cells)with
  |some x,some xs=>some (x::xs)|_,_=>none
def DN (n:Nat)(z:List SV):List SV:=match n with|0=>[] |n+1=>z++DN n z
def un (f:Option (Nat×Nat×Bool))(l:Option (List SV)):OR:=
 match f,l with
 |some (o,n,g),some l=>wE (td g n l o)|_,_=>.bad
def Mk:SV->Bool
 | .v (.agg _) =>false| .v (.tuple _) =>false| .any=>false| .agg _=>false| .tup _=>false| .gd .. =>false| .nw .. =>false| .nm .. =>false| .ng .. =>false|_=>true
def xv:List SV->Bool
 | [] =>true|x::r=>Mk x&&xv r
def Ml (k:Tag)(id:Nat)(i:Int)(l:List k.T):Option k.T->OR
 |some x=>.eff True True [(id,.row k (l.set i.toNat x))] .any|none=>.bad
def IT (k:Tag)(id:Nat)(i j:Int)(l:List (List k.T)):Option k.T->OR
 |some x=>.eff True True [(id,.grid k (l.set i.toNat ((l.getD i.toNat []).set j.toNat x)))] .any|none=>.bad
def Mm (id off:Nat)(vs:List SV):Ob->OR
 | .cells l=>bif Nat.ble (off+sz vs) (sz l)&&xv vs then .eff True True [(id,.cells (iH l off vs))] .any else .bad|_=>.bad
def Mn (s id:Nat)(i:Int)(off:Nat)(vs:List SV):Ob->OR
 | .row k l=>bif Nat.beq s (ae k)&&Nat.ble (off+sz vs) s then Ml k id i l (qA k (iH (cellsOf k (l.getD i.toNat (gz k))) off vs))else .bad|_=>.bad
def Mo (s id:Nat)(i j:Int)(off:Nat)(vs:List SV):Ob->OR
 | .grid k l=>bif Nat.beq s (ae k)&&Nat.ble (off+sz vs) s then IT k id i j l (qA k (iH (cellsOf k ((l.getD i.toNat []).getD j.toNat (gz k))) off vs))else .bad|_=>.bad
def tf (size:Nat)(h:List Ob):SV->Option (List SV)->OR
 | .ptr id off,some vs=>bif Nat.beq (sz vs) size then Mm id off vs (ar h id)else .bad| .rp s id i off,some vs=>bif Nat.beq (sz vs) size then Mn s id i off vs (ar h id)else .bad| .gp s id i j off,some vs=>bif Nat.beq (sz vs) size then Mo s id i j off vs (ar h id)else .bad|_,_=>.bad
def IU:Ob->Bool
 | .grid _ _=>true|_=>false
def RE (k:Tag)(nx id rid:Nat)(i:Int)(l:List (List k.T)):Option (List k.T)->OR
 |some m=>.eff True True [(id,.dead),(rid,.dead),(nx,.grid k (l.set i.toNat m)),(id,.fwd (some nx))] .any|none=>.bad
def Mq (k:Tag):Ob->Option (List k.T)
 | .row k' l=>if h:k'=k then some (h▸l)else none|_=>none
def EJ (nx:Nat)(h:List Ob)(id rid:Nat)(i:Int):Ob->OR
 | .grid k l=>RE k nx id rid i l (Mq k (ar h rid))|_=>.bad
def tg (size nx:Nat)(h:List Ob):SV->SV->OR
 | .rp s id i off,.os rid=>bif IU (ar h id)then(bif Nat.beq size 1&&Nat.beq s 1&&Nat.beq off 0&& !(Nat.beq id rid)then EJ nx h id rid i (ar h id)else .bad)else tf size h (.rp s id i off) (rB (.os rid))|a,x=>tf size h a (rB x)
def RG:SV->OR
 | .ptr id off=>.val (.ptr id off)| .ep l off=>.val (.ep l off)| .rp a b c d=>.val (.rp a b c d)| .gp a b c d e=>.val (.gp a b c d e)
 | .fn f first caps=>.val (.fn f first caps)
 |_=>.bad
def Kn:Option IntKind->SV->OR
 |some k,.v (.int _ n) =>.val (.v (.int k (k.wrap n)))|_,_=>.bad
def IV (nx:Nat):Option (List SV)->OR
 |some l=>.eff True True [(nx,.cells l)] (.ptr nx 0)|none=>.bad
def Mr:Option (List SV)->OR
 |some l=>.val (.agg l)|none=>.bad
def RH (k:Tag):Option (List k.T)->OR
 |some xs=>.newr (.rs k xs)|none=>.bad
def lsS (n:Nat)(l:List SV):OR:=bif Nat.beq (sz l) n&&xv l then .newr (.ls l)else .bad
def bsT (k:Tag)(ti te:TI)(n:Nat):Option (List SV)->OR
 |some l=>bif Nat.beq te.size (ae k)&&ti.isSlice&&Nat.ble (n*te.size) 16777216&&Nat.beq (sz te.zero) te.size then RH k (tG k te.size n l)else .bad|none=>.bad
def bsU (ti te:TI)(n:Nat):Option (List SV)->OR
 |some l=>bif Nat.beq te.size 1&&ti.isSlice&&Nat.ble (n*te.size) 16777216&&Nat.beq (sz te.zero) te.size then lsS n l else .bad|none=>.bad
def noG:Option (Nat×Bool)->Bool
 |none=>true|some _=>false
def ac_:Op->Bool
 | .call ⟨.value _,_,_⟩ =>true|_=>false
def ada:Op->Bool
 | .call ⟨.builtin .append,_,_⟩ =>true|_=>false
def RI:List Oper->Bool
 | [] =>false
 |o::r=>ac_ o.op||RI r
def N0:List Oper->Bool
 | [] =>false
 |o::r=>ada o.op||N0 r
def adb:Op->Bool
 | .call ⟨.builtin .clear,_,_⟩ =>true|_=>false
def RJ:List Oper->Bool
 | [] =>false
 |o::r=>adb o.op||RJ r
def YX:Op->Bool
 | .slice .. =>true|_=>false
def Ms:List Oper->Bool
 | [] =>false| [o] =>YX o.op|_::r=>Ms r
def N1:List Oper->List Nat
 | [] =>[]|o::r=>bif YX o.op then o.dst.toList++N1 r else N1 r
def Ko (ds:List Nat):List Operand->Bool
 | [] =>false
 | .tmp d::r=>ds.any (Nat.beq d) ||Ko ds r
 |_::r=>Ko ds r
def RK:Op->List Operand
 | .call ⟨.value _,args,_⟩ =>args.toList|_=>[]
def YY (ds:List Nat):List Oper->Bool
 | [] =>false
 |o::r=>Ko ds (RK o.op) ||YY ds r
def Kp (ops:List Oper):Bool:=N0 ops||RJ ops||Ms ops||YY (N1 ops) ops
def adc (ops:List Oper)(g:Option (Nat×Bool)):Option (Nat×Bool):=bif N0 ops&&RI ops then some (0,true)else g
def YZ:List (Nat×Operand)->List Operand
 | [] =>[]|(_,x)::r=>x::YZ r
def RL:Op->List Operand
 | .build _ parts=>YZ parts.toList|_=>[]
def Y0 (ds:List Nat):List Oper->Bool
 | [] =>false
 |o::r=>Ko ds (RL o.op) ||Y0 ds r
def ade (t:TypeId):Op->Bool
 | .buildSlice t' _ _=>Nat.beq t t'|_=>false
def N2 (t:TypeId):List Oper->List Nat
 | [] =>[]|o::r=>bif ade t o.op then o.dst.toList++N2 t r else N2 t r
def XX:Bool:=true
def IW (t:TypeId)(ops:List Oper)(g:Option (Nat×Bool)):Option (Nat×Bool):=bif XX&&Y0 (N2 t ops) ops then some (0,true)else adc ops g
def adf:SV->Bool
 | .os _=>true|_=>false
def osL:List SV->Bool
 | [] =>false
 |s::r=>adf s||osL r
def osV:SV->Bool
 | .os _=>true| .agg l=>osL l|_=>false
def VA:List (Nat×SV)->Bool
 | [] =>false
 |(_,s)::r=>osV s||VA r
def bsG (ti te:TI)(n:Nat)(l:Option (List SV))(os:Bool):Option Tag->OR
 |some k=>bif os then bsU ti te n l else bsT k ti te n l|none=>bsU ti te n l
def XY:List Kd->Bool
 | [.f] =>true|_=>false
def Y1:Option Tag->Option Tag
 |some k=>bif XY (eO k)then none else some k|none=>none
def bsS (ti te:TI)(n:Nat)(parts:List (Nat×SV)):OR:=
 bif Nat.beq n 0 then(bif ti.isSlice&&parts.isEmpty then .newr .e0 else .bad)
 else bsG ti te n (nK (fun i=>some (i*te.size,te.size)) (DN n te.zero) parts) (VA parts) (Y1 te.tag)
def one {α:Type}:List α->Bool
 | [_] =>true|_=>false
def GQ (g:Option (Nat×Bool))(nx:Nat)(te:TI):OR->OR
 | .newr (.rs k l) =>bif(te.agg||one l)&&noG g then .eff True True [(nx,.row k l)] (.os nx)else .newr (.rs k l)|r=>r
def RM (i:Nat):SV->OR
 | .tup l=>wE (nth l i)|_=>.bad
def Bo (args:List SV):SV->OR
 | .fn g first caps=>.call g (first++args++caps)
 | .os id=>.yld id args|_=>.bad
def aI:Nat:=140737488355328
def RN:Ob->OR
 | .row _ l=>.asm (l.length<=aI) (.i l.length)| .grid _ l=>.asm (l.length<=aI) (.i l.length)|_=>.bad
def VB (i:Int):Ob->OR
 | .grid _ l=>.asm ((l.getD i.toNat []).length<=aI) (.i (l.getD i.toNat []).length)|_=>.bad
def VC (m:Option Tag):Ob->OR
 | .mp _ _ l p=>bif m.isSome&&noE p then .val (.i l.length)else .bad|_=>.bad
def wb (ti:TI)(h:List Ob):List SV->OR
 | [.rs _ l] =>bif ti.isSlice then .asm (l.length<=aI) (.i l.length)else .bad| [.v (.slice none 0 0)] =>bif ti.isSlice then .val (.i 0)else .bad| [.e0] =>bif ti.isSlice then .val (.i 0)else .bad| [.rc _ l] =>bif ti.isSlice then .asm (l.length<=aI) (.i l.length)else .bad| [.os id] =>bif ti.isSlice then RN (ar h id)else VC ti.mkt (ar h id)| [.gr id i] =>bif ti.isSlice then VB i (ar h id)else .bad| [.ls l] =>bif ti.isSlice then .val (.i (sz l))else .bad|_=>.bad
def IX:List SV->OR
 | [.v (.int k a),.v (.int _ b)] =>.val (.v (.int k (if b<a then b else a)))|_=>.bad
def IY:List SV->OR
 | [.v (.int k a),.v (.int _ b)] =>.val (.v (.int k (if a<b then b else a)))|_=>.bad
def RO:SV->OR
 | .v (.iface t y) =>.pan (.iface t y)|_=>.bad
def EK (t:TypeId):SV->OR
 | .v (.int k n) =>.val (.v (.iface t (.int k n)))|_=>.bad
def Kq (fn:Fn)(first caps:List SV):OR:=
 match fn with
 | .func f=>.val (.fn f first caps)
 |_=>.bad
def di:Nat:=140737488355328
def N3 (a:Tag):Option Tag->Bool
 |some b=>Nat.beq (Bg a) (Bg b)|none=>false
def Ae (k:Tag)(k':Tag)(l:List k'.T):Option (List k.T):=if h:k'=k then some (h▸l)else none
def P6 (k:Tag):Ob->Option (List k.T)
 | .row k' l=>Ae k k' l|_=>none
def VD (k:Tag)(s:Nat)(lo hi:Int):Ob->Option (List k.T)
 | .row k' l=>bif Nat.beq s (ae k')then Ae k k' ((l.take hi.toNat).drop lo.toNat)else none|_=>none
def vj (k:Tag)(h:List Ob):SV->Option (List k.T)
 | .rs k' l=>Ae k k' l| .v (.slice none 0 0) =>some []| .e0=>some []| .os id=>P6 k (ar h id)| .vw s id lo hi=>VD k s lo hi (ar h id)|_=>none
def RP (k:Tag)(nx bytes:Nat)(kill:List Up)(l:List k.T):Option (List k.T)->OR
 |some m=>.eff ((l++m).length*bytes<=di) ((l++m).length<=aI) (kill++[(nx,.row k (l++m))]) (.os nx)|none=>.bad
def xw (te:TI)(nx:Nat)(kill:List Up)(h:List Ob)(src:SV):Ob->OR
 | .row k l=>bif Nat.beq te.size (ae k)&&Nat.beq (sz te.zero) te.size&&Nat.ble 1 te.bytes then RP k nx te.bytes kill l (vj k h src)else .bad|_=>.bad
def EL (k:Tag)(nx bytes id2:Nat)(kill:List Up)(l:List (List k.T)):Option (List k.T)->OR
 |some m=>.eff ((l++[m]).length*bytes<=di) ((l++[m]).length<=aI) (kill++[(id2,.dead),(nx,.grid k (l++[m]))]) (.os nx)|none=>.bad
def Dl (nx bytes:Nat)(h:List Ob)(id2:Nat)(kill:List Up):Ob->OR
 | .grid k l=>EL k nx bytes id2 kill l (P6 k (ar h id2))|_=>.bad
def RQ (nx bytes id2:Nat):Ob->OR
 | .row k m=>EL k nx bytes id2 [] [] (some m)|_=>.bad
def xx (te:TI)(nx:Nat)(h:List Ob)(src:SV):Option Tag->OR
 |some k=>xw te nx [] h src (.row k [])|none=>.bad
def RR (te:TI)(id:Nat):Ob->OR
 | .row k l=>bif Nat.beq te.size (ae k)&&Nat.beq (sz te.zero) te.size&&Nat.ble 1 te.bytes then .eff ((l++l).length*te.bytes<=di) ((l++l).length<=aI) [(id,.fz k l)] (.rs k (l++l))else .bad|_=>.bad
def Kr (k:Tag)(nx bytes:Nat)(l:List k.T):Option (List k.T)->OR
 |some (x::m) =>.eff ((l++x::m).length*bytes<=di) ((l++x::m).length<=aI) [(nx,.row k (l++x::m))] (.os nx)|_=>.bad
def P7 (te:TI)(nx:Nat)(h:List Ob)(src:SV)(k:Tag)(l:List k.T):OR:=bif Nat.beq te.size (ae k)&&Nat.beq (sz te.zero) te.size&&Nat.ble 1 te.bytes then Kr k nx te.bytes l (vj k h src)else .bad
def o6 (te:TI)(nx:Nat)(h:List Ob):List SV->OR
 | [.os id,.ls [.os id2]] =>bif Nat.beq te.size 1&&Nat.beq (sz te.zero) 1&&Nat.ble 1 te.bytes&& !(Nat.beq id id2)then Dl nx te.bytes h id2 [(id,.dead)] (ar h id)else .bad| [.v (.slice none 0 0),.ls [.os id2]] =>bif Nat.beq te.size 1&&Nat.beq (sz te.zero) 1&&Nat.ble 1 te.bytes then RQ nx te.bytes id2 (ar h id2)else .bad| [.os id,.os id2] =>bif Nat.beq id id2 then RR te id (ar h id)else xw te nx [(id,.dead)] h (.os id2) (ar h id)| [.os id,src] =>xw te nx [(id,.dead)] h src (ar h id)| [.v (.slice none 0 0),src] =>xx te nx h src te.tag| [.e0,src] =>xx te nx h src te.tag| [.rc k l,src] =>P7 te nx h src k l|_=>.bad
def EM (k:Tag)(l:List k.T)(lo hi:Int):List k.T:=if hi.toNat<=lo.toNat then l else l.take lo.toNat++List.replicate (hi.toNat - lo.toNat) (gz k)++l.drop hi.toNat
def Y2 (te:TI)(s id:Nat)(lo hi:Int):Ob->OR
 | .row k l=>bif Nat.beq s (ae k)&&N3 k te.tag then .eff True True [(id,.row k (EM k l lo hi))] .any else .bad|_=>.bad
def AD (ti te:TI)(h:List Ob):List SV->OR
 | [.vw s id lo hi] =>bif ti.isSlice then Y2 te s id lo hi (ar h id)else .bad|_=>.bad
def mkT (nx:Nat)(n c:Int)(te:TI):Option Tag->OR
 |some k=>.eff (n=c/\0<=n/\n*te.bytes<=di) (n<=aI) [(nx,.row k (List.replicate n.toNat (gz k)))] (.os nx)|none=>.bad
def mkS (nx:Nat)(te:TI):SV->SV->OR
 | .v (.int .i64 n),.v (.int .i64 c) =>mkT nx n c te te.tag|_,_=>.bad
def VE:List SV->Bool
 | [.v (.slice none 0 0)] =>true|_=>false
def VF (nx:Nat)(n c:Int)(te:TI):Option Tag->OR
 |some k=>bif Nat.beq te.size 1&&VE te.zero&&Nat.ble 1 te.bytes then .eff (n=c/\0<=n/\n*te.bytes<=di) (n<=aI) [(nx,.grid k (List.replicate n.toNat []))] (.os nx)else .bad|none=>.bad
def GR (nx:Nat)(te tr:TI):SV->SV->OR
 | .v (.int .i64 n),.v (.int .i64 c) =>VF nx n c te tr.tag|_,_=>.bad
def bnd (d:Int):Option SV->Option Int
 |none=>some d|some (.v (.int _ n)) =>some n|_=>none
def RS (k:Tag)(l:List k.T):Option Int->Option Int->OR
 |some lo,some hi=>.chk (0<=lo/\lo<=hi/\hi<=(l.length:Int)) (.rs k ((l.take hi.toNat).drop lo.toNat))|_,_=>.bad
def VG (id nx:Nat)(k:Tag)(l:List k.T):Option Int->Option Int->OR
 |some lo,some hi=>.eff (0<=lo/\lo<=hi/\hi<=(l.length:Int)) True [(id,.dead),(nx,.row k ((l.take hi.toNat).drop lo.toNat))] (.os nx)|_,_=>.bad
def RT (esz id nx:Nat)(lo hi:Option SV):Ob->OR
 | .row k l=>bif Nat.beq esz (ae k)then VG id nx k l (bnd 0 lo) (bnd l.length hi)else .bad|_=>.bad
def RU (esz id n:Nat):Option Int->OR
 |some a=>.chk (0<=a/\a<=(n:Int)) (.vw esz id a n)|none=>.bad
def N4 (esz id:Nat)(lo:Option SV):Ob->OR
 | .row k l=>bif Nat.beq esz (ae k)then RU esz id l.length (bnd 0 lo)else .bad|_=>.bad
def o7 (ti:TI)(esz nx:Nat)(h:List Ob)(lo hi:Option SV)(vq:Bool):SV->OR
 | .rs k l=>bif ti.isSlice&&Nat.beq esz (ae k)then RS k l (bnd 0 lo) (bnd l.length hi)else .bad| .os id=>bif ti.isSlice then(bif vq then N4 esz id lo (ar h id)else RT esz id nx lo hi (ar h id))else .bad|_=>.bad
def XZ (ti:TI):Option SV->Option SV->SV->SV->OR
 |none,some (.v (.int .i64 0)),.v (.int .i64 0),.v (.slice none 0 0) =>bif ti.isSlice then .val (.v (.slice none 0 0))else .bad|_,_,_,_=>.bad
def X0 (ti:TI)(k:Tag)(l:List k.T):Option SV->Option SV->SV->OR
 |none,some (.v (.int .i64 a)),.v (.int .i64 b) =>bif ti.isSlice then .chk (a=(l.length:Int)/\b=(l.length:Int)) (.rc k l)else .bad|_,_,_=>.bad
def EN (ti:TI)(lo hi:Option SV)(m:SV):SV->OR
 | .rs k l=>X0 ti k l lo hi m|x=>XZ ti lo hi m x
def EO (kk vk:Tag)(l:List (kk.T×vk.T))(ok:Bool):Option kk.T->OR
 |some x=>bif ok then .val (.tup [svT vk (aZ kk vk l x),.b (NY kk vk l x)])else .val (svT vk (aZ kk vk l x))|none=>.bad
def my (a:Tag):Option Tag->Bool
 |some b=>Nat.beq (Bg a) (Bg b)|none=>false
def Ht {α:Type}:Option α->Bool
 |none=>true|some _=>false
def Ks (ti:TI)(key:SV)(ok:Bool):Ob->OR
 | .mp kk vk l pend=>bif my kk ti.mkt&&my vk ti.mvt&&(!ok||noE pend)then EO kk vk l ok (unT kk key)else .bad|_=>.bad
def N5 (key:SV)(ok:Bool):Option Tag->Option Tag->OR
 |some kk,some vk=>EO kk vk [] ok (unT kk key)|_,_=>.bad
def vt (ti:TI)(h:List Ob)(ok:Bool)(key:SV):SV->OR
 | .os id=>Ks ti key ok (ar h id)| .rm kk vk l=>bif my kk ti.mkt&&my vk ti.mvt then EO kk vk l ok (unT kk key)else .bad| .v (.map none) =>N5 key ok ti.mkt ti.mvt|_=>.bad
def Y3 (id:Nat)(kk vk:Tag)(l:List (kk.T×vk.T)):Option kk.T->Option vk.T->OR
 |some x,some y=>.eff True True [(id,.mp kk vk (fN kk vk l x y) none)] .any|_,_=>.bad
def Y4 (ti:TI)(id:Nat)(key v:SV):Ob->OR
 | .mp kk vk l p=>bif my kk ti.mkt&&my vk ti.mvt&&noE p then Y3 id kk vk l (unT kk key) (unT vk v)else .bad|_=>.bad
def DO (ti:TI)(h:List Ob)(key v:SV):SV->OR
 | .os id=>Y4 ti id key v (ar h id)|_=>.bad
def P8 (id nx:Nat)(kk vk:Tag)(l:List (kk.T×vk.T)):Option kk.T->OR
 |some x=>.eff True True [(nx,.fwd none),(id,.mp kk vk l (some (nx,some x)))] (.tup [svT vk (aZ kk vk l x),.os nx])|none=>.bad
def P9 (ti:TI)(id nx:Nat)(key:SV):Ob->OR
 | .mp kk vk l p=>bif my kk ti.mkt&&my vk ti.mvt&&noE p then P8 id nx kk vk l (unT kk key)else .bad|_=>.bad
def zU (ti:TI)(nx:Nat)(h:List Ob)(key:SV):SV->OR
 | .os id=>P9 ti id nx key (ar h id)|_=>.bad
def Y5 (id:Nat)(kk vk:Tag)(l:List (kk.T×vk.T))(x:kk.T):Option vk.T->OR
 |some y=>.eff True True [(id,.mp kk vk (fN kk vk l x y) none)] .any|none=>.bad
def VH (ti:TI)(id n:Nat)(v:SV):Ob->OR
 | .mp kk vk l (some (n',some x)) =>bif my kk ti.mkt&&my vk ti.mvt&&Nat.beq n' n then Y5 id kk vk l x (unT vk v)else .bad|_=>.bad
def IZ (ti:TI)(h:List Ob)(v:SV):SV->SV->OR
 | .os id,.os n=>VH ti id n v (ar h id)|_,_=>.bad
def Y6 (id:Nat)(kk vk:Tag)(l:List (kk.T×vk.T)):Option kk.T->OR
 |some x=>.eff True True [(id,.mp kk vk (Bj kk vk l x) none)] .any|none=>.bad
def Y7 (ti:TI)(id:Nat)(key:SV):Ob->OR
 | .mp kk vk l p=>bif my kk ti.mkt&&my vk ti.mvt&&noE p then Y6 id kk vk l (unT kk key)else .bad|_=>.bad
def AE (ti:TI)(h:List Ob):List SV->OR
 | [.os id,key] =>Y7 ti id key (ar h id)|_=>.bad
def mmR (nx:Nat):Option Tag->Option Tag->OR
 |some kk,some vk=>.eff True True [(nx,.mp kk vk [] none)] (.os nx)|_,_=>.bad
def zsO (z:List SV):OR:=.val (.tup [.agg z,.b false])
def taS (t:TypeId)(ok:Bool)(ti:TI):SV->OR
 | .v (.iface t' y) =>bif ti.iface then .bad else bif Nat.beq t' t then(bif ok then .val (.tup [.v y,.b true])else .val (.v y))else .bad|_=>.bad
def VI (ti:TI)(nx id:Nat):Ob->OR
 | .mp kk vk l p=>bif my kk ti.mkt&&my vk ti.mvt&&noE p then .eff True True [(nx,.mi (some id) l.length (List.range l.length) none),(id,.mp kk vk l (some (nx,none)))] (.ptr nx 0)else .bad|_=>.bad
def EP (ti:TI)(nx:Nat)(h:List Ob):SV->OR
 | .os id=>VI ti nx id (ar h id)|_=>.bad
def RV:SV->OR
 | .ptr id 0=>.nxt id|_=>.bad
def RW (id n j:Nat):Ob->OR
 | .mp kk vk l (some (it,none)) =>bif Nat.beq it id then .chk (n=l.length/\j<n) (.tup [svT kk (l.getD j (gz kk,gz vk)).1,svT vk (l.getD j (gz kk,gz vk)).2])else .bad|_=>.bad
def N6 (h:List Ob)(id:Nat):Ob->OR
 | .mi (some mid) n _ (some j) =>RW id n j (ar h mid)|_=>.bad
def Dm (h:List Ob):SV->OR
 | .ptr id 0=>N6 h id (ar h id)|_=>.bad
def opS (cx:Cx):Op->OR
 | .move x=>.val (val cx x)| .assign x=>.val (val cx x)| .pick c a b=>EG a b (val cx c) (mw cx.ops cx.g c true (raw cx.st.t a)) (mw cx.ops cx.g c false (raw cx.st.t b))
 | .alloc t=>aG cx.ts t fun ti=>IV cx.nx (some ti.zero)
 | .box _ x=>IV cx.nx (rB (val cx x))
 | .build t parts=>aG cx.ts t fun ti=>
  bif ti.isArr then aG cx.ts ti.elem fun te=>Mr (nK (fun i=>some (i*te.size,te.size)) ti.zero (jw cx parts.toList))
  else bif ti.agg then Mr (nK (fun i=>(nth ti.fields i).map fun f=>(f.1,f.2.1)) ti.zero (jw cx parts.toList))
  else .bad
 | .buildSlice t n parts=>aG cx.ts t fun ti=>aG cx.ts ti.elem fun te=>GQ (IW t cx.ops cx.g) cx.nx te (bsS ti te n (jw cx parts.toList))
 | .load t a=>aG cx.ts t fun ti=>sJ ti cx.st.h (val cx a)
 | .store t a x=>aG cx.ts t fun ti=>tg ti.size cx.nx cx.st.h (val cx a) (val cx x)
 | .nilCheck x=>RG (val cx x)| .binOp op t x y _=>IR cx.ts op t (val cx x) (val cx y)| .unOp op _ x=>unS op (val cx x)
 | .convert src dst x=>aG cx.ts src fun _=>aG cx.ts dst fun ti=>Kn ti.int (val cx x)
 | .makeFunc fn first captured=>Kq fn (df cx first.toList) (df cx captured.toList)
 | .fieldAddr t x f=>aG cx.ts t fun ti=>match nth ti.fields f with|some (o,n,_) =>bif Nat.ble 1 n then Bn o (val cx x)else .bad|none=>.bad
 | .field t x f=>aG cx.ts t fun ti=>un (nth ti.fields f) (Bk (val cx x))
 | .indexAddr t x i=>aG cx.ts t fun ti=>aG cx.ts ti.elem fun te=>i7 ti te.size cx.st.h (val cx x) (val cx i)
 | .extract x i=>RM i (val cx x)| .panic x=>RO (val cx x)
 | .makeInterface t x=>aG cx.ts t fun ti=>bif ti.iface then .bad else EK t (val cx x)
 | .makeSlice t n c=>aG cx.ts t fun ti=>aG cx.ts ti.elem fun te=>bif ti.isSlice then(bif te.isSlice then aG cx.ts te.elem fun tr=>GR cx.nx te tr (val cx n) (val cx c)else mkS cx.nx te (val cx n) (val cx c))else .bad
 | .slice t x lo hi none=>aG cx.ts t fun ti=>aG cx.ts ti.elem fun te=>o7 ti te.size cx.nx cx.st.h (qB cx lo) (qB cx hi) (Ht hi&&Kp cx.ops) (val cx x)
 | .slice t x lo hi (some m) =>aG cx.ts t fun ti=>aG cx.ts ti.elem fun _=>EN ti (qB cx lo) (qB cx hi) (val cx m) (val cx x)
 | .makeMap t none=>aG cx.ts t fun ti=>mmR cx.nx ti.mkt ti.mvt
 | .lookup t m k ok=>aG cx.ts t fun ti=>vt ti cx.st.h ok (val cx k) (val cx m)
 | .mapUpdate t m k v=>aG cx.ts t fun ti=>DO ti cx.st.h (val cx k) (val cx v) (val cx m)
 | .insert t m k v=>aG cx.ts t fun ti=>DO ti cx.st.h (val cx k) (val cx v) (val cx m)
 | .mapEntry t m k=>aG cx.ts t fun ti=>zU ti cx.nx cx.st.h (val cx k) (val cx m)
 | .entryStore t m s v=>aG cx.ts t fun ti=>IZ ti cx.st.h (val cx v) (val cx m) (val cx s)
 | .range t m=>aG cx.ts t fun ti=>EP ti cx.nx cx.st.h (val cx m)
 | .next it false=>RV (val cx it)| .entry it=>Dm cx.st.h (val cx it)
 | .typeAssert x _ t ok=>aG cx.ts t fun ti=>taS t ok ti (val cx x)
 | .call ⟨.value f,args,_⟩ =>Bo (df cx args.toList) (val cx f)
 | .call ⟨.builtin .len,args,tys⟩ =>match tys.toList with| [t] =>aG cx.ts t fun ti=>wb ti cx.st.h (df cx args.toList) |_=>.bad
 | .call ⟨.builtin .delete,args,tys⟩ =>match tys.toList with|t::_=>aG cx.ts t fun ti=>AE ti cx.st.h (df cx args.toList) |_=>.bad
 | .call ⟨.builtin .clear,args,tys⟩ =>match tys.toList with| [t] =>aG cx.ts t fun ti=>aG cx.ts ti.elem fun te=>AD ti te cx.st.h (df cx args.toList) |_=>.bad
 | .call ⟨.builtin .min,args,_⟩ =>IX (df cx args.toList)| .call ⟨.builtin .max,args,_⟩ =>IY (df cx args.toList)
 | .call ⟨.builtin .append,args,tys⟩ =>match tys.toList with| [t,t2] =>aG cx.ts t fun ti=>aG cx.ts t2 fun ti2=>aG cx.ts ti.elem fun te=>bif ti.isSlice&&ti2.isSlice then o6 te cx.nx cx.st.h (df cx args.toList)else .bad|_=>.bad
 |_=>.bad
structure Fp where
 all:List Nat
 rd:List Nat
 wk:List Nat
 tc:List Nat
 wt:List Nat
def gK:SV->List Nat
 | .ptr id _=>[id]| .os id=>[id]| .rp _ id _ _=>[id]| .gr id _=>[id]| .gp _ id _ _ _=>[id]| .vw _ id _ _=>[id]|_=>[]
def I0:SV->List Nat
 | .ls [.os id] =>[id]|s=>gK s
def rC:List SV->List Nat
 | [] =>[]|s::r=>I0 s++rC r
def RX:Ob->List Nat
 | .mi (some mid) _ _ _=>[mid]|_=>[]
def RY (h:List Ob):SV->List Nat
 | .ptr id _=>RX (ar h id)|_=>[]
def fpO (cx:Cx):Op->List Nat×List Nat
 | .range _ m=>(gK (val cx m),[])| .entry it=>(gK (val cx it)++RY cx.st.h (val cx it),[])| .load _ a=>(gK (val cx a),[])| .store _ a x=>(gK (val cx a)++gK (val cx x),[])| .indexAddr _ x _=>(gK (val cx x),[])| .slice _ x _ _ _=>(gK (val cx x),[])| .lookup _ m _ ok=>bif ok then(gK (val cx m),[])else([],gK (val cx m))| .mapUpdate _ m _ _=>(gK (val cx m),[])| .insert _ m _ _=>(gK (val cx m),[])| .mapEntry _ m _=>(gK (val cx m),[])| .entryStore _ m _ _=>(gK (val cx m),[])| .call ⟨.builtin .len,args,_⟩ =>(rC (df cx args.toList),[])| .call ⟨.builtin .append,args,_⟩ =>(rC (df cx args.toList),[])| .call ⟨.builtin .delete,args,_⟩ =>(rC (df cx args.toList),[])| .call ⟨.builtin .clear,args,_⟩ =>(rC (df cx args.toList),[])|_=>([],[])
def fO:List Up->List Nat
 | [] =>[]|(id,_)::r=>id::fO r
def Bp:Op->Bool
 | .mapEntry .. =>true|_=>false
def fpU (o:Op)(x:List Nat×List Nat)(all:List Nat)(ups:List Up):Fp:=
 bif Bp o then ⟨all,x.1,x.2,[],fO ups⟩else ⟨all,x.1,x.2,fO ups,[]⟩
def Kt (as:List Nat):List Edge->Nat
 | [] =>0|e::r=>bif Region.binds .any e then Nat.lor (Nat.lor ((nth as e.on).getD 0) (Nat.shiftLeft 1 e.on)) (Kt as r)else Kt as r
def Cy:List Oper->List Nat->List Nat
 | [],as=>as|o::r,as=>Cy r (as++[Kt as o.after.toList])
def uo (as:List Nat)(i j:Nat):Bool:=Nat.testBit ((nth as i).getD 0) j
def DP (n:Nat):List Nat->Bool
 | [] =>false|m::r=>bif Nat.beq m n then true else DP n r
def vz:List Nat->List Nat->Bool
 | [],_=>false|a::r,l=>bif DP a l then true else vz r l
def vA (i e:Fp):Bool:=
 vz i.all e.tc||vz i.all e.wt||vz i.rd e.tc||vz i.rd e.wt||vz i.wk e.tc||vz i.tc e.tc||vz i.tc e.wt||vz i.wt e.tc||vz i.wt e.wt
def Ku (as:List Nat)(i:Nat)(x:Fp):Nat->List Fp->Bool
 |_,[] =>true|j,y::r=>(Nat.beq i j|| !(vA x y) ||(Nat.blt j i&&uo as i j) ||(Nat.blt i j&&uo as j i))&&Ku as i x (j+1) r
def N7 (as:List Nat)(b:Nat)(all:List Fp):Nat->List Fp->Bool
 |_,[] =>true|i,x::r=>Ku as i x b all&&N7 as b all (i+1) r
def X1 (ops:List Oper)(b:Nat)(fps:List Fp):Bool:=N7 (Cy ops []) b fps b fps
def EQ:List Fp->Bool
 | [] =>true|x::r=>x.tc.isEmpty&&x.wt.isEmpty&&EQ r
def uq (ops:List Oper)(b:Nat)(fps:List Fp):Prop:=bif EQ fps then True else X1 ops b fps=true
def I1 (as:List Nat)(c:Nat):Nat->List Oper->Bool
 |_,[] =>true|i,_::r=>(Nat.beq i c||(Nat.blt i c&&uo as c i) ||(Nat.blt c i&&uo as i c))&&I1 as c (i+1) r
def ER (ops:List Oper)(c:Nat):Bool:=I1 (Cy ops []) c 0 ops
def dV (ops:List Oper)(t:List (Nat×SV)):Nat->Nat×Bool->Prop
 |0,_=>True
 |n+1,(j,want) =>match (nth ops j).bind (·.dst)with
  |some d=>match lk d t with
   | .v (.bool x) =>x=want| .gd j' b (.v (.bool x)) =>dV ops t n (j',b)/\x=want|_=>True
  |none=>True
def io (ops:List Oper)(t:List (Nat×SV)):Nat->Nat×Bool->Prop
 |0,_=>True
 |n+1,(j,want) =>match (nth ops j).bind (·.dst)with
  |some d=>match lk d t with
   | .v (.bool x) =>¬x=want| .gd j' b (.v (.bool x)) =>io ops t n (j',b)\/¬x=want|_=>True
  |none=>True
def xy (ops:List Oper)(t:List (Nat×SV)):Nat->Nat×Bool->Prop
 |0,_=>False
 |n+1,(j,want) =>match (nth ops j).bind (·.dst)with
  |some d=>match lk d t with
   | .v (.bool x) =>¬x=want| .gd j' b (.v (.bool x)) =>xy ops t n (j',b)\/¬x=want|_=>False
  |none=>False
def VJ (szt off:Nat)(i:Int):Ob->SV
 | .row k l=>bif Nat.beq szt (ae k)then .ep (cellsOf k (l.getD i.toNat (gz k))) off else .any|_=>.any
def N8 (szt off:Nat)(i j:Int):Ob->SV
 | .grid k l=>bif Nat.beq szt (ae k)then .ep (cellsOf k ((l.getD i.toNat []).getD j.toNat (gz k))) off else .any|_=>.any
def RZ (i:Int):Ob->SV
 | .grid k l=>.rs k (l.getD i.toNat [])|_=>.any
def frz:Ob->SV
 | .row k l=>.rs k l| .mp kk vk l p=>bif noE p then .rm kk vk l else .any| .grid k l=>Kb k l| .fz k l=>.rs k l|_=>.any
def P_ (f:SV->SV)(off:Nat):Ob->SV
 | .cells l=>.ep (l.map f) off|_=>.any
def VK (s:Nat)(lo hi:Int):Ob->SV
 | .row k l=>bif Nat.beq s (ae k)then .rs k ((l.take hi.toNat).drop lo.toNat)else .any|_=>.any
def fP (h:List Ob):Nat->SV->SV
 |_,.v x=>.v x|_,.rs k l=>.rs k l|_,.rc k l=>.rs k l|_,.e0=>.e0|_,.rm k k2 l=>.rm k k2 l|_,.os id=>frz (ar h id)|_,.vw s id lo hi=>VK s lo hi (ar h id)|_,.rp s id i off=>bif Nat.beq s 0 then .any else VJ s off i (ar h id)|_,.gp s id i j off=>bif Nat.beq s 0 then .any else N8 s off i j (ar h id)|_,.gr id i=>RZ i (ar h id)|n+1,.ptr id off=>P_ (fP h n) off (ar h id)|n+1,.ep l off=>.ep (l.map (fP h n)) off|n+1,.ls l=>.ls (l.map (fP h n))|n+1,.agg l=>.agg (l.map (fP h n))|n+1,.tup l=>.tup (l.map (fP h n))
 |n+1,.fn f first caps=>.fn f (first.map (fP h n)) (caps.map (fP h n))
 |_,_=>.any
def Qa (f:SV->List Nat):Ob->List Nat
 | .cells l=>l.flatMap f|_=>[]
def kY (h:List Ob):Nat->SV->List Nat
 |_,.os id=>[id]|_,.rp _ id _ _=>[id]|_,.gp _ id _ _ _=>[id]|_,.gr id _=>[id]|_,.vw _ id _ _=>[id]|n+1,.ptr id _=>id::Qa (kY h n) (ar h id)|n+1,.ep l _=>l.flatMap (kY h n)|n+1,.ls l=>l.flatMap (kY h n)|n+1,.agg l=>l.flatMap (kY h n)|n+1,.tup l=>l.flatMap (kY h n)
 |n+1,.fn _ first caps=>first.flatMap (kY h n)++caps.flatMap (kY h n)
 |_,_=>[]
def ungd:List (Nat×SV)->List (Nat×SV)
 | [] =>[]|(d,.gd ..)::r=>(d,.any)::ungd r|x::r=>x::ungd r
def da:Nat->SV->Bool
 |_,.v _=>true|_,.rs _ _=>true|_,.rm _ _ _=>true|_,.e0=>true|_,.rc _ _=>true|_,.any=>true|n+1,.ep l _=>l.all (da n)|n+1,.ls l=>l.all (da n)|n+1,.agg l=>l.all (da n)|n+1,.tup l=>l.all (da n)|n+1,.fn _ l m=>l.all (da n)&&m.all (da n)|_,_=>false
def jX:Nat->SV->Bool
 |_,.v _=>true|_,.nw k _=>Nat.beq (rank k) 0|_,.nm k k2 _=>Nat.beq (rank k) 0&&Nat.beq (rank k2) 0|_,.ng k _=>Nat.beq (rank k) 0|n+1,.agg l=>l.all (jX n)|n+1,.tup l=>l.all (jX n)|_,_=>false
def aS:Nat->SV->List Ob
 |_,.nw k l=>[.row k l]|_,.nm k k2 l=>[.mp k k2 l none]|_,.ng k l=>[.grid k l]|n+1,.agg l=>l.flatMap (aS n)|n+1,.tup l=>l.flatMap (aS n)|_,_=>[]
def th (f:Nat->SV->SV)(c:SV->Nat):Nat->List SV->List SV
 |_,[] =>[]|b,x::r=>f b x::th f c (b+c x) r
def ji:Nat->Nat->SV->SV
 |_,b,.nw _ _=>.os b|_,b,.nm _ _ _=>.os b|_,b,.ng _ _=>.os b
 |n+1,b,.agg l=>.agg (th (ji n) (fun s=>(aS n s).length) b l)
 |n+1,b,.tup l=>.tup (th (ji n) (fun s=>(aS n s).length) b l)
 |_,_,s=>s
def gf:Nat->SV->List Nat
 |_,.ptr id _=>[id]|_,.os id=>[id]|_,.rp _ id _ _=>[id]|_,.gr id _=>[id]|_,.gp _ id _ _ _=>[id]|_,.vw _ id _ _=>[id]|n+1,.ep l _=>l.flatMap (gf n)|n+1,.ls l=>l.flatMap (gf n)|n+1,.agg l=>l.flatMap (gf n)|n+1,.tup l=>l.flatMap (gf n)|n+1,.fn _ l m=>l.flatMap (gf n)++m.flatMap (gf n)|n+1,.gd _ _ s=>gf n s|_,_=>[]
def R3:Ob->List Nat
 | .cells l=>l.flatMap (gf 3)|_=>[]
def reach (h:List Ob):Nat->List Nat->List Nat->List Nat
 |0,_,acc=>acc|_+1,[],acc=>acc|n+1,id::todo,acc=>bif DP id acc then reach h n todo acc else reach h n (R3 (ar h id)++todo) (acc++[id])
def AF (id:Nat):List Nat->Option Nat
 | [] =>none|a::r=>bif Nat.beq a id then some 0 else(AF id r).map (· +1)
def Bq (f:Nat->SV):Option Nat->SV
 |some k=>f k|none=>.any
def ren (m:Nat->Option Nat):Nat->SV->SV
 |_,.ptr id off=>Bq (fun k=>.ptr k off) (m id)
 |_,.os id=>Bq (fun k=>.os k) (m id)
 |_,.rp s id i off=>Bq (fun k=>.rp s k i off) (m id)
 |_,.gr id i=>Bq (fun k=>.gr k i) (m id)
 |_,.gp s id i j off=>Bq (fun k=>.gp s k i j off) (m id)
 |_,.vw s id lo hi=>Bq (fun k=>.vw s k lo hi) (m id)
 |n+1,.ep l o=>.ep (l.map (ren m n)) o|n+1,.ls l=>.ls (l.map (ren m n))|n+1,.agg l=>.agg (l.map (ren m n))|n+1,.tup l=>.tup (l.map (ren m n))|n+1,.fn f l l2=>.fn f (l.map (ren m n)) (l2.map (ren m n))|_,.any=>.any|_,.v x=>.v x|_,.e0=>.e0|_,.rc k l=>.rc k l|_,.rs k l=>.rs k l|_,.rm k k2 l=>.rm k k2 l|_,_=>.any
def Mt (kk vk:Tag)(l:List (kk.T×vk.T)):Option kk.T->Option Nat->Ob
 |p,some k=>.mp kk vk l (some (k,p))|some _,none=>.fwd none|none,none=>.mp kk vk l none
def xz (m:Nat->Option Nat):Ob->Ob
 | .cells l=>.cells (l.map (ren m 3))| .mi mid n left cur=>.mi (mid.bind m) n left cur| .fwd n=>.fwd (n.bind m)| .mp kk vk l (some (i,p)) =>Mt kk vk l p (m i)|o=>o
def inN (ids:List Nat)(i:Nat):Option Nat:=AF i ids
def tU (h:List Ob)(ids:List Nat):List Ob:=ids.map fun id=>xz (inN ids) (ar h id)
def tH (ids:List Nat)(b:Nat)(k:Nat):Option Nat:=match nth ids k with|some id=>some id|none=>some (b+(k - ids.length))
def lP (ids:List Nat)(b:Nat)(k:Nat):Nat:=match nth ids k with|some id=>id|none=>b+(k - ids.length)
def oU (ids:List Nat)(b:Nat)(h:List Ob):Nat->List Ob->List Ob
 |_,[] =>h|k,o::r=>oU ids b (bM h (lP ids b k) (xz (tH ids b) o)) (k+1) r
def Mu (ids:List Nat)(d:Option Nat)(st:St)(K:St->Prop)(Z:Value->St->Prop):Rs->Prop
 | .ret s h=>K (St.put ⟨st.t,oU ids st.h.length st.h 0 h⟩ d (ren (tH ids st.h.length) 3 s))| .pan x h=>Z x ⟨ungd st.t,oU ids st.h.length st.h 0 h⟩
def Qb (ids:List Nat)(g:Nat×Bool)(d:Option Nat)(st:St)(K:St->Prop)(Z:Value->St->Prop):Rs->Prop
 | .ret s h=>K (St.put ⟨st.t,oU ids st.h.length st.h 0 h⟩ d (.gd g.1 g.2 (ren (tH ids st.h.length) 3 s)))| .pan x h=>Z x ⟨ungd st.t,oU ids st.h.length st.h 0 h⟩
def Br (ids:List Nat)(d:Option Nat)(st:St)(K:St->Prop)(Z:Value->St->Prop):Option HCon->Prop
 |some c=>c.pre/\∀ r,c.post r->Mu ids d st K Z (c.res r)|none=>False
def AG (ids:List Nat)(ops:List Oper)(g:Nat×Bool)(d:Option Nat)(st:St)(K:St->Prop)(Z:Value->St->Prop):Option HCon->Prop
 |some c=>(dV ops st.t ops.length g->c.pre/\∀ r,c.post r->Qb ids g d st K Z (c.res r))/\(io ops st.t ops.length g->K (st.put d (.gd g.1 g.2 .any)))|none=>xy ops st.t ops.length g/\K (st.put d (.gd g.1 g.2 .any))
def yy (np:Bool)(ids:List Nat)(d:Option Nat)(st:St)(K:St->Prop)(Z:Value->St->Prop)(c:Option HCon):Option Con->Prop
 |some (.det p s) =>bif np||jX 3 s then(p/\K (St.put ⟨st.t,st.h++aS 3 s⟩ d (ji 3 st.h.length s)))else Br ids d st K Z c
 |some (.rel _ pre post out) =>pre/\(bif np then ∀ r,post r->K (St.put ⟨st.t,st.h++aS 3 (out r)⟩ d (ji 3 st.h.length (out r)))else False)
 |some (.may ok s x) =>bif np||jX 3 s then(ok=true->K (St.put ⟨st.t,st.h++aS 3 s⟩ d (ji 3 st.h.length s)))/\(ok=false->Z x ⟨ungd st.t,st.h⟩)else False
 |none=>Br ids d st K Z c
def ES (np:Bool)(ids:List Nat)(ops:List Oper)(g:Nat×Bool)(d:Option Nat)(st:St)(K:St->Prop)(Z:Value->St->Prop)(c:Option HCon):Option Con->Prop
 |some (.det p s) =>(dV ops st.t ops.length g->p)/\(bif(np||jX 3 s)&&(aS 3 s).isEmpty then K (st.put d (.gd g.1 g.2 s))else False)|none=>AG ids ops g d st K Z c|_=>False
def Mv (id:Nat)(d:Option Nat)(st:St)(K:St->Prop):Option YCon->Prop
 |some c=>c.pre/\∀ r,c.post r->K (St.put ⟨st.t,bM st.h id (.ab (c.res r).2)⟩ d (.b (c.res r).1))|none=>False
def Kv (id:Nat)(ops:List Oper)(g:Nat×Bool)(d:Option Nat)(st:St)(K:St->Prop):Option YCon->Prop
 |some c=>(dV ops st.t ops.length g->c.pre/\∀ r,c.post r->K (St.put ⟨st.t,bM st.h id (.ab (c.res r).2)⟩ d (.gd g.1 g.2 (.b (c.res r).1))))/\(io ops st.t ops.length g->K (st.put d (.gd g.1 g.2 .any)))|none=>False
def I2 (G:Cons)(args:List SV):Ob->Option YCon
 | .ab r=>G.y args r|_=>none
def R4 (id mid n:Nat)(left:List Nat)(d:Option Nat)(st:St)(next:St->Prop):Ob->Prop
 | .mp kk vk l (some (it,none)) =>(it=id/\n=l.length)/\(left=[]->next (st.put d (.tup [.v (.bool false)])))/\
   ∀ j,j∈left->next (St.put ⟨st.t,bM st.h id (.mi (some mid) n (left.erase j) (some j))⟩ d (.tup [.v (.bool true),svT kk (l.getD j (gz kk,gz vk)).1,svT vk (l.getD j (gz kk,gz vk)).2]))
 |_=>False
def VL (id:Nat)(d:Option Nat)(st:St)(next:St->Prop):Ob->Prop
 | .mi (some mid) n left _=>R4 id mid n left d st next (ar st.h mid)|_=>False
def nL (G:Cons)(d:Option Nat)(st:St)(next:St->Prop)(Z:Value->St->Prop):OR->Prop
 | .val s=>next (st.put d s)| .chk c s=>c/\next (st.put d s)| .asm c s=>c->next (st.put d s)| .newr s=>next (st.put d s)| .eff c a ups s=>c/\(a->next (St.put ⟨st.t,ba st.h ups⟩ d s))| .call f args=>yy (args.all (da 3)) (reach st.h 64 (args.flatMap (gf 3)) []) d st next Z (G.o f (args.map (ren (inN (reach st.h 64 (args.flatMap (gf 3)) [])) 6)) (tU st.h (reach st.h 64 (args.flatMap (gf 3)) []))) (G.p f (args.map (fP st.h 6)))| .yld id args=>bif args.all (da 3)then Mv id d st next (I2 G args (ar st.h id))else False| .nxt id=>VL id d st next (ar st.h id)| .amb p=>∀ b,p b->next (st.put d (.v (.bool b)))| .pan x=>Z x ⟨ungd st.t,st.h⟩| .bad=>False
def stepG (G:Cons)(ops:List Oper)(g:Nat×Bool)(d:Option Nat)(st:St)(next:St->Prop)(Z:Value->St->Prop):OR->Prop
 | .val s=>next (st.put d (.gd g.1 g.2 s))| .chk c s=>(dV ops st.t ops.length g->c)/\next (st.put d (.gd g.1 g.2 s))| .asm _ s=>next (st.put d (.gd g.1 g.2 s))| .newr s=>next (st.put d (.gd g.1 g.2 s))| .eff c a ups s=>(dV ops st.t ops.length g->c/\(a->next (St.put ⟨st.t,ba st.h ups⟩ d (.gd g.1 g.2 s))))/\(io ops st.t ops.length g->next (st.put d (.gd g.1 g.2 .any)))| .call f args=>ES (args.all (da 3)) (reach st.h 64 (args.flatMap (gf 3)) []) ops g d st next Z (G.o f (args.map (ren (inN (reach st.h 64 (args.flatMap (gf 3)) [])) 6)) (tU st.h (reach st.h 64 (args.flatMap (gf 3)) []))) (G.p f (args.map (fP st.h 6)))| .yld id args=>bif args.all (da 3)then Kv id ops g d st next (I2 G args (ar st.h id))else False| .bad=>xy ops st.t ops.length g/\next (st.put d (.gd g.1 g.2 .any))| .nxt _=>False| .amb _=>False| .pan _=>False
def j7 (ts:Tis)(G:Cons)(ops:List Oper):List Oper->St->(St->Prop)->(Value->St->Prop)->Prop
 | [],st,K,_=>K st
 |o::rest,st,K,Z=>match o.guard with
  |none=>nL G o.dst st (fun st'=>j7 ts G ops rest st' K Z) Z (opS ⟨ts,ops,none,st,st.h.length⟩ o.op)
  |some g=>stepG G ops g o.dst st (fun st'=>j7 ts G ops rest st' K Z) Z (opS ⟨ts,ops,some g,st,st.h.length⟩ o.op)
structure Dr where
 c:Prop
 a:Prop
 s:SV
 ups:List Up
 all:List Nat
def drR (np:Bool)(rd:List Nat)(nx:Nat)(p:Prop)(s:SV):List Ob->Option Dr
 | [] =>bif np||jX 3 s then some ⟨p,True,s,[],rd⟩else none
 | [ob] =>bif np||jX 3 s then some ⟨p,True,ji 3 nx s,[(nx,ob)],rd⟩else none
 |_=>none
def drC (np:Bool)(rd:List Nat)(nx:Nat):Option Con->Option Dr
 |some (.det p s) =>drR np rd nx p s (aS 3 s)|_=>none
def kR (G:Cons)(h:List Ob)(nx:Nat):OR->Option Dr
 | .val s=>some ⟨True,True,s,[],[]⟩| .chk c s=>some ⟨c,True,s,[],[]⟩| .asm c s=>some ⟨True,c,s,[],[]⟩| .newr s=>some ⟨True,True,s,[],[]⟩| .eff c a ups s=>some ⟨c,a,s,ups,[]⟩| .call f args=>drC (args.all (da 3)) (args.flatMap (kY h 6)) nx (G.p f (args.map (fP h 6)))| .bad=>some ⟨False,True,.any,[],[]⟩|_=>none
def drN (d:Option Nat)(st:St)(next:List Nat->List Up->St->Prop)(r:Dr):Prop:=r.c/\(r.a->next r.all r.ups (St.put ⟨st.t,ba st.h r.ups⟩ d r.s))
def drG (ops:List Oper)(g:Nat×Bool)(d:Option Nat)(st:St)(next:List Nat->List Up->St->Prop)(r:Dr):Prop:=
 bif r.ups.isEmpty then(dV ops st.t ops.length g->r.c)/\next r.all [] (st.put d (.gd g.1 g.2 r.s))
 else ¬ (dV ops st.t ops.length g/\io ops st.t ops.length g)/\(dV ops st.t ops.length g->r.c/\(r.a->next r.all r.ups (St.put ⟨st.t,ba st.h r.ups⟩ d (.gd g.1 g.2 r.s))))/\(io ops st.t ops.length g->next r.all [] (st.put d (.gd g.1 g.2 r.s)))
def AH (d:Option Nat)(st:St)(next:List Nat->List Up->St->Prop)(cutp:Prop):Option Dr->Prop
 |some r=>drN d st next r|none=>cutp
def yz (ops:List Oper)(g:Nat×Bool)(d:Option Nat)(st:St)(next:List Nat->List Up->St->Prop)(cutp:Prop):Option Dr->Prop
 |some r=>drG ops g d st next r|none=>cutp
def kZ (ts:Tis)(G:Cons)(ops:List Oper)(K:St->Prop)(Z:Value->St->Prop):List Oper->(i b:Nat)->List Fp->St->Prop
 | [],_,b,fps,st=>uq ops b fps/\K st
 |o::rest,i,b,fps,st=>match o.guard with
  |none=>AH o.dst st (fun all ups st'=>kZ ts G ops K Z rest (i+1) b (fps++[fpU o.op (fpO ⟨ts,ops,none,st,st.h.length⟩ o.op) all ups]) st')
    (uq ops b fps/\ER ops i=true/\nL G o.dst st (fun st'=>kZ ts G ops K Z rest (i+1) (i+1) [] st') Z (opS ⟨ts,ops,none,st,st.h.length⟩ o.op))
    (kR G st.h st.h.length (opS ⟨ts,ops,none,st,st.h.length⟩ o.op))
  |some g=>yz ops g o.dst st (fun all ups st'=>kZ ts G ops K Z rest (i+1) b (fps++[fpU o.op (fpO ⟨ts,ops,some g,st,st.h.length⟩ o.op) all ups]) st')
    (uq ops b fps/\ER ops i=true/\stepG G ops g o.dst st (fun st'=>kZ ts G ops K Z rest (i+1) (i+1) [] st') Z (opS ⟨ts,ops,some g,st,st.h.length⟩ o.op))
    (kR G st.h st.h.length (opS ⟨ts,ops,some g,st,st.h.length⟩ o.op))
def Y8 (id:Nat):Ob->SV
 | .fwd (some n) =>.os n|_=>.os id
def R5 (h:List Ob):SV->SV
 | .os id=>Y8 id (ar h id)|s=>s
def Mw (h:List Ob):List (Nat×SV)->List (Nat×SV)
 | [] =>[]|(d,s)::r=>(d,R5 h s)::Mw h r
def N9:Ob->Bool
 | .fwd (some _) =>true|_=>false
def nM:List Ob->Bool
 | [] =>false
 |o::r=>N9 o||nM r
def Y9:Ob->Ob
 | .fwd _=>.dead|o=>o
def Af:List Ob->List Ob
 | [] =>[]|o::r=>Y9 o::Af r
def cleanF (st:St):St:=bif nM st.h then ⟨Mw st.h st.t,Af st.h⟩else st
def yA (ops:List Oper)(st:St):St:=cleanF (bif ops.any (·.guard.isSome)then ⟨ungd st.t,st.h⟩else st)
inductive Ex where
 |normal
 |exit (id:Nat)
 |ret
 |pan (x:Value)
def Ex.then (K:St->Prop)(Q:Ex->St->Prop):Ex->St->Prop
 | .normal,st=>K st|e,st=>Q e st
def Ex.block (id:Nat)(Q:Ex->St->Prop):Ex->St->Prop
 | .exit j,st=>bif Nat.beq j id then Q .normal st else Q (.exit j) st|e,st=>Q e st
def Ag (x y:Prop):SV->Prop
 | .v (.bool b) =>(b=true->x)/\(b=false->y)|_=>False
structure LCon where
 α:Type
 pre:Prop
 post:α->Prop
 ex:α->Ex
 out:α->St
abbrev wF:=Nat->St->Option LCon
def tI (Q:Ex->St->Prop):Option LCon->Prop
 |some c=>c.pre/\∀ r,c.post r->Q (c.ex r) (c.out r)|none=>False
def R6:Operand->Nat
 | .tmp n=>n+1000000|_=>0
def subJ (t:List (Nat×SV)):List (Nat×SV)->Prop
 | [] =>True|(n,s)::r=>lk n t=s/\subJ t r
def inJ (d:St):Ex->St->Prop
 | .normal,st=>st.h=d.h/\subJ st.t d.t|_,_=>False
def R7 (x y:(Ex->St->Prop)->Prop)(Q:Ex->St->Prop)(s:SV)(c:LCon):Prop:=
 Ag (x fun e st=>∃ r,c.post r/\inJ (c.out r) e st) (y fun e st=>∃ r,c.post r/\inJ (c.out r) e st) s/\∀ r,c.post r->Q .normal (c.out r)
def ET (x y:(Ex->St->Prop)->Prop)(Q:Ex->St->Prop)(s:SV):Option LCon->Prop
 |none=>Ag (x Q) (y Q) s|some c=>R7 x y Q s c
def JC (d:St):LCon:=⟨Unit,True,fun _=>True,fun _=>.normal,fun _=>d⟩
def adg (c:LCon)(Q:Ex->St->Prop):Ex->St->Prop
 | .normal,st=>∃ r,c.post r/\inJ (c.out r) .normal st|e,st=>Q e st
def inC (d:St)(Q:Ex->St->Prop):Ex->St->Prop
 | .normal,st=>inJ d .normal st|e,st=>Q e st
def cutL (x:(Ex->St->Prop)->Prop)(Q:Ex->St->Prop)(c:LCon):Prop:=x (adg c Q)/\∀ r,c.post r->Q .normal (c.out r)
def EU (x:(Ex->St->Prop)->Prop)(Q:Ex->St->Prop):Option LCon->Prop
 |none=>x Q|some c=>cutL x Q c
def Dn (ts:Tis)(G:Cons)(ops:Array Oper)(d:Bool)(st:St)(Q:Ex->St->Prop):Prop:=
 bif d then kZ ts G ops.toList (fun st'=>Q .normal (yA ops.toList st')) (fun x st'=>Q (.pan x) st') ops.toList 0 0 [] st
   else j7 ts G ops.toList ops.toList st (fun st'=>Q .normal (yA ops.toList st')) (fun x st'=>Q (.pan x) st')
def exec (ts:Tis)(G:Cons)(L:wF):Code->St->(Ex->St->Prop)->Prop
 | .skip,st,Q=>Q .normal st| .region id ops d,st,Q=>EU (Dn ts G ops d st) Q (L (id+2000000) st)
 | .seq a b,st,Q=>exec ts G L a st (Ex.then (fun st'=>exec ts G L b st' Q) Q)
 | .cond c x y,st,Q=>ET (exec ts G L x st) (exec ts G L y st) Q (raw st.t c) (L (R6 c) st)| .block id (.loop _),st,Q=>tI Q (L id st)| .block id (.rangeFunc ..),st,Q=>tI Q (L id st)| .block id c,st,Q=>exec ts G L c st (Ex.block id Q)| .exit id,st,Q=>Q (.exit id) st| .ret,st,Q=>Q .ret st| .scope c,st,Q=>exec ts G L c st Q| .label _,st,Q=>Q .normal st|_,_,_=>False
def VM:OR->Option SV
 | .val s=>some s|_=>none
def Qc (ts:Tis)(st:St):ResultVar->Option SV
 | .tmp n=>some (lk n st.t)
 | .cell q t=>VM (aG ts t fun ti=>sJ ti st.h (lk q st.t))
def Kw:Option SV->Option (List SV)->Option (List SV)
 |some s,some l=>some (s::l)|_,_=>none
def k9 (ts:Tis)(st:St):List ResultVar->Option (List SV)
 | [] =>some []|x::r=>Kw (Qc ts st x) (k9 ts st r)
def mz:Option (List SV)->Option SV
 |some [s] =>some s|some l=>some (.tup l)|none=>none
def adh (h:List Ob):Option SV->Option SV
 |some s=>some (fP h 4 s)|none=>none
def yB (rs:List ResultVar)(ts:Tis)(st:St):Option SV:=adh st.h (mz (k9 ts st rs))
def yC:Ob->SV
 | .row k l=>.nw k l| .mp k k2 l none=>.nm k k2 l| .grid k l=>.ng k l|_=>.any
def Ah (h:List Ob):Nat->SV->SV
 |_,.os id=>yC (ar h id)|n+1,.agg l=>.agg (l.map (Ah h n))|n+1,.tup l=>.tup (l.map (Ah h n))|_,.v x=>.v x|_,.rs k l=>.rs k l|_,.rm k k2 l=>.rm k k2 l|_,.e0=>.e0|n,s=>bif da n s then s else .any
def xA:Nat->SV->List Nat
 |_,.os id=>[id]|n+1,.agg l=>l.flatMap (xA n)|n+1,.tup l=>l.flatMap (xA n)|_,_=>[]
def uniq:List Nat->Bool
 | [] =>true|a::r=>!(DP a r)&&uniq r
def Do (h:List Ob)(s:SV):Option SV:=bif uniq (xA 3 s)&&(xA 3 s).all (fun i=>Nat.blt i h.length)then some (Ah h 3 s)else none
def X2 (h:List Ob):Option SV->Option SV
 |some s=>Do h s|none=>none
def Qd (rs:List ResultVar)(ts:Tis)(st:St):Option SV:=X2 st.h (mz (k9 ts st rs))
def AI (m:Bool)(rs:List ResultVar)(ts:Tis)(st:St):Option SV:=bif m then Qd rs ts st else yB rs ts st
def D9 (ops:List Oper)(i:Nat)(o:Oper):Bool:=
 match o.guard with
 |none=>true
 |some (j,_) =>Nat.blt j i&&(match (nth ops j).bind (·.dst)with
  |some d=>(List.range ops.length).all fun k=>Nat.beq k j||(match (nth ops k).bind (·.dst)with|some e=>!(Nat.beq d e) |none=>true)
  |none=>false)
def R8 (N:Nat)(ops:List Oper):Bool:=
 (List.range ops.length).all fun i=>match nth ops i with
  |some o=>(match o.dst with|some d=>Nat.blt d N|none=>true)&&D9 ops i o
  |none=>true
def rF (o:Oper)(k:Nat):Bool:=o.after.toList.any fun e=>Nat.beq e.on k&&Region.binds .any e
def Mx (ops:Array Oper):Bool:=
 (List.range ops.size).all fun i=>match nth ops.toList i with
  |some o=>
   (o.after.toList.all fun e=>!(Region.binds .any e) ||Nat.blt e.on i)&&
   (List.range ops.size).all fun k=>match nth ops.toList k with
    |some q=>match q.dst with
     |some d=>(Nat.beq k i|| !(o.dst==some d))&&(!((o.looksAt ops).contains d) ||Nat.beq k i||(Nat.blt k i&&rF o k) ||(Nat.blt i k&&rF q i))|none=>true
    |none=>true
  |none=>true
def cD (N:Nat):Code->Bool
 | .region _ ops d=>R8 N ops.toList&&(!d||Mx ops)| .seq a b=>cD N a&&cD N b| .cond _ a b=>cD N a&&cD N b| .block _ c=>cD N c| .loop c=>cD N c| .scope c=>cD N c| .rangeFunc _ _ a b=>cD N a&&cD N b|_=>true
def oV:Nat->Nat->SV->Bool
 |_,_,.v _=>true|_,_,.rs _ _=>true|_,_,.rm _ _ _=>true|_,_,.any=>true|_,_,.e0=>true|_,_,.rc _ _=>true|_,n,.ptr id _=>Nat.blt id n|_,n,.os id=>Nat.blt id n|_,n,.rp _ id _ _=>Nat.blt id n|_,n,.gr id _=>Nat.blt id n|_,n,.gp _ id _ _ _=>Nat.blt id n|_,n,.vw _ id _ _=>Nat.blt id n|f+1,n,.ep l _=>l.all (oV f n)|f+1,n,.ls l=>l.all (oV f n)|f+1,n,.agg l=>l.all (oV f n)|f+1,n,.tup l=>l.all (oV f n)|f+1,n,.fn _ l m=>l.all (oV f n)&&m.all (oV f n)|_,_,_=>false
def Qe (m:Nat->Option Nat)(n:Nat)(t:List (Nat×SV)):List (Nat×SV)->Prop
 | [] =>True|(i,s)::r=>(lk i t=ren m 5 s/\oV 5 n s=true)/\Qe m n t r
def dg:Ob->Bool
 | .dead=>true|_=>false
def xZ (n:Nat):Ob->Bool
 | .cells l=>l.all (oV 3 n)| .mi (some i) _ _ _=>Nat.blt i n| .fwd (some i) =>Nat.blt i n| .mp _ _ _ (some (i,_)) =>Nat.blt i n|_=>true
def unp {κ:Type}:Option (Nat×Option κ)->Option (Nat×Option κ)
 |some (_,none) =>none|p=>p
def N_:SV->Bool
 | .any=>true|_=>false
def wkL:List SV->List SV->List SV
 |a::r,x::s=>(bif N_ a then .any else x)::wkL r s|_,s=>s
def EV:Ob->Ob->Ob
 | .mp _ _ _ none,.mp kk vk l p=>.mp kk vk l (unp p)| .cells a,.cells l=>.cells (wkL a l)|_,o=>o
def I3 (m:Nat->Option Nat)(n:Nat)(h:List Ob)(j:Nat)(o:Ob):Prop:=bif dg o then True else EV o (ar h j)=xz m o/\xZ n o=true
def GS (m:Nat->Option Nat)(n:Nat)(h:List Ob):List Nat->List Ob->Prop
 | [],[] =>True|j::js,o::r=>I3 m n h j o/\GS m n h js r|_,_=>False
def oG:List Nat->List Ob->List Nat
 |j::js,o::r=>bif dg o then oG js r else j::oG js r|_,_=>[]
def AJ:Nat->List Nat->Nat->Bool
 |_,[],_=>true|i,j::js,n=>(Nat.beq i j||Nat.ble n i)&&AJ (i+1) js n
def EW (js:List Nat)(i:Nat):Option Nat:=nth js i
def Sub (js:List Nat)(n0:Nat)(st st2:St):Prop:=
 (uniq (oG js st2.h)=true/\AJ 0 js n0=true/\js.all (fun j=>Nat.blt j st.h.length)=true)/\Qe (EW js) st2.h.length st.t st2.t/\GS (EW js) st2.h.length st.h js st2.h
def xB {σ:Type}(D:σ->St)(I:σ->Prop)(m:σ->Nat)(n0:Nat)(x:σ)(id:Nat)(Q:Ex->St->Prop):Ex->St->Prop
 | .normal,st=>∃ y js,I y/\m y<m x/\n0<=(D y).h.length/\Sub js n0 st (D y)| .exit j,st=>bif Nat.beq j id then Q .normal st else Q (.exit j) st| .ret,st=>Q .ret st| .pan x,st=>Q (.pan x) st
def nN:Nat->List SV->List (Nat×SV)
 |_,[] =>[]|n,s::r=>(n,s)::nN (n+1) r
def fh (post:SV->Prop):Option SV->Prop
 |some s=>post s|none=>False
def Kx (m:Bool)(rs:List ResultVar)(ts:Tis)(post:SV->Prop)(pp:Value->Prop):Ex->St->Prop
 | .exit _,_=>False| .normal,st=>fh post (AI m rs ts st)| .ret,st=>fh post (AI m rs ts st)| .pan x,_=>pp x
def Bt (n0:Nat)(C:HCon):Option SV->List Ob->Prop
 |some s,h=>∃ r s' h' js,C.post r/\C.res r=.ret s' h'/\n0<=h'.length/\Sub js n0 ⟨[(0,s)],h⟩ ⟨[(0,s')],h'⟩|none,_=>False
def Ky (n0:Nat)(rs:List ResultVar)(ts:Tis)(C:HCon):Ex->St->Prop
 | .exit _,_=>False| .normal,st=>Bt n0 C (mz (k9 ts st rs)) st.h| .ret,st=>Bt n0 C (mz (k9 ts st rs)) st.h| .pan x,st=>∃ r h' js,C.post r/\C.res r=.pan x h'/\n0<=h'.length/\Sub js n0 ⟨[],st.h⟩ ⟨[],h'⟩
structure Hd where
 p:Option Nat:=none
 v:Value:=undef
 vs:List Value:=[]
 bs:List Nat:=[]
abbrev Own:=Nat->Option Hd
def cm (F:Nat->Prop)(own:Own)(b:Nat):Prop:=F b\/∃ id hd,own id=some hd/\b∈hd.bs
def cF:Own:=fun _=>none
def Hd.like (a b:Hd):Prop:=b.p=a.p/\b.v=a.v/\b.vs=a.vs
theorem Hd.like.refl (a:Hd):a.like a:=⟨rfl,rfl,rfl⟩
theorem Hd.like.trans {a b c:Hd}(h:a.like b)(h':b.like c):a.like c:=⟨h'.1.trans h.1,h'.2.1.trans h.2.1,h'.2.2.trans h.2.2⟩
def sK:Value->Bool
 | .agg _=>false| .tuple _=>false|_=>true
theorem EX {v:Value}(h:sK v=true):v.cells= #[v]:=by cases v <;>first|rfl|simp[sK]at h
theorem oH {v:Value}(h:sK v=true):v.oneCell'=true:=by cases v <;>first|rfl|simp[sK]at h
def Y_ (x:Value)(sz:Nat)(lo hi:Int)(a:Option Addr):Prop:=hi.toNat<=lo.toNat\/∃ b o n cap,x=.slice (some ⟨b,o,none⟩) n cap/\hi.toNat<=n/\a=some ⟨b,o+lo.toNat*sz,none⟩
inductive Rel (F:Nat->Prop)(own:Own)(w:World):SV->Value->Prop where
 |any (v:Value):Rel F own w .any v
 |v (x:Value):Rel F own w (.v x) x
 |ptr {id off b:Nat} {hd:Hd}:own id=some hd->hd.p=some b->Rel F own w (.ptr id off) (.pointer (some ⟨b,off,none⟩))
 |os {id:Nat} {hd:Hd}:own id=some hd->sK hd.v=true->Rel F own w (.os id) hd.v
 |e0 {a:Option Addr}:Rel F own w .e0 (.slice a 0 0)
 |rc {k:Tag} {l:List k.T} {a:Option Addr}:Rel F own w (.rs k l) (.slice a l.length l.length)->Rel F own w (.rc k l) (.slice a l.length l.length)
 |rp {sz id off n cap b o:Nat} {i:Int} {hd:Hd}:own id=some hd->hd.v=.slice (some ⟨b,o,none⟩) n cap->i.toNat<n->Rel F own w (.rp sz id i off) (.pointer (some ⟨b,o+i.toNat*sz+off,none⟩))
 |gr {id:Nat} {i:Int} {v:Value} {hd:Hd}:own id=some hd->hd.vs[i.toNat]? =some v->sK v=true->Rel F own w (.gr id i) v
 |gp {sz id off n cap b o:Nat} {i j:Int} {hd:Hd}:own id=some hd->hd.vs[i.toNat]? =some (.slice (some ⟨b,o,none⟩) n cap)->j.toNat<n->Rel F own w (.gp sz id i j off) (.pointer (some ⟨b,o+j.toNat*sz+off,none⟩))
 |vw {sz id cap:Nat} {lo hi:Int} {hd:Hd} {a:Option Addr}:own id=some hd->Y_ hd.v sz lo hi a->hi.toNat - lo.toNat<=cap->Rel F own w (.vw sz id lo hi) (.slice a (hi.toNat - lo.toNat) cap)
 |ep {cells:List SV} {off b o:Nat} (c:Nat->Value):
   (∀ j s,cells[j]? =some s->¬cm F own b/\w.cell? ⟨b,o+j,none⟩=some (c j))->(∀ j s,cells[j]? =some s->Rel F own w s (c j))->
   Rel F own w (.ep cells off) (.pointer (some ⟨b,o+off,none⟩))
 |rs {k:Tag} {l:List k.T} {b o cap:Nat} (c:Nat->Nat->Value):l.length<=cap->l.length<=aI->
   (∀ (i:Nat) (x:k.T),l[i]? =some x->∀ (j:Nat) (s:SV),(cellsOf k x)[j]? =some s->¬cm F own b/\w.cell? ⟨b,o+i*ae k+j,none⟩=some (c i j))->
   (∀ (i:Nat) (x:k.T),l[i]? =some x->∀ (j:Nat) (s:SV),(cellsOf k x)[j]? =some s->Rel F own w s (c i j))->
   Rel F own w (.rs k l) (.slice (some ⟨b,o,none⟩) l.length cap)
 |rs0 {k:Tag} {a:Option Addr} {cap:Nat}:Rel F own w (.rs k []) (.slice a 0 cap)
 |ls {l:List SV} {b o cap:Nat} (c:Nat->Value):l.length<=cap->
   (∀ j s,l[j]? =some s->¬cm F own b/\w.cell? ⟨b,o+j,none⟩=some (c j))->(∀ j s,l[j]? =some s->Rel F own w s (c j))->
   Rel F own w (.ls l) (.slice (some ⟨b,o,none⟩) l.length cap)
 |rm {kk vk:Tag} {l:List (kk.T×vk.T)} {b:Nat} (ck cv:Nat->Value) (es:Array MapEntry) (clock:Nat):¬cm F own b->w.heap[b]? =some (.map es clock)->es.size=l.length->
   (∀ (i:Nat) (x:kk.T×vk.T),l[i]? =some x->∃ n,es[i]? =some ⟨ck i,cv i,n⟩)->
   (∀ (i:Nat) (x:kk.T×vk.T),l[i]? =some x->Rel F own w (svT kk x.1) (ck i))->(∀ (i:Nat) (x:kk.T×vk.T),l[i]? =some x->Rel F own w (svT vk x.2) (cv i))->
   Rel F own w (.rm kk vk l) (.map (some b))
 |rm0 {kk vk:Tag}:Rel F own w (.rm kk vk []) (.map none)
 |agg {l:List SV} {vs:Array Value}:vs.size=l.length->(∀ (j:Nat) (s:SV),l[j]? =some s->Rel F own w s (vs.getD j undef))->Rel F own w (.agg l) (.agg vs)
 |tup {l:List SV} {vs:Array Value}:vs.size=l.length->(∀ (j:Nat) (s:SV),l[j]? =some s->Rel F own w s (vs.getD j undef))->Rel F own w (.tup l) (.tuple vs)
 |fn {f:FuncId} {first caps:List SV} {us vs:Array Value}:us.size=first.length->vs.size=caps.length->(∀ (j:Nat) (s:SV),first[j]? =some s->Rel F own w s (us.getD j undef))->
   (∀ (j:Nat) (s:SV),caps[j]? =some s->Rel F own w s (vs.getD j undef))->Rel F own w (.fn f first caps) (.func (.func f) us vs)
structure Goes (F:Nat->Prop)(own:Own)(w:World)(own':Own)(w':World):Prop where
 ids:∀ (id:Nat) (hd:Hd),own id=some hd->∃ hd',own' id=some hd'/\hd.like hd'
 keep:∀ b,b<w.heap.size->¬cm F own b->¬cm F own' b/\w'.heap[b]? =w.heap[b]?
 size:w.heap.size<=w'.heap.size
structure Bs where
 w:World
 own:Own:=cF
 ds:List Deferred:=[]
def Old (B:Bs)(b:Nat):Prop:=b<B.w.heap.size/\¬ ∃ id hd,B.own id=some hd/\b∈hd.bs
structure Fr (B:Bs)(own:Own)(w:World):Prop where
 ids:∀ (id:Nat) (hd:Hd),B.own id=some hd->∃ hd',own id=some hd'/\hd.like hd'
 base:∀ (id:Nat) (hd:Hd) (b:Nat),own id=some hd->b∈hd.bs->¬Old B b
 os:w.os=B.w.os
 tape:w.tape=B.w.tape
 output:w.output=B.w.output
 size:B.w.heap.size<=w.heap.size
 block:∀ k,Old B k->w.heap[k]? =B.w.heap[k]?
theorem Fr.refl (B:Bs):Fr B B.own B.w:=⟨fun _ hd h=>⟨hd,h,.refl _⟩,fun id hd _ h hb ho=>ho.2 ⟨id,hd,h,hb⟩,rfl,rfl,rfl,aio _,fun _ _=>rfl⟩
theorem Fr.below {B:Bs}{own:Own}{w w':World}(h:Fr B own w)(hb:Below w.heap.size w w'):Fr B own w':=
 ⟨h.ids,h.base,hb.os.trans h.os,hb.tape.trans h.tape,hb.output.trans h.output,aiR h.size hb.size,fun k hk=>(hb.block k (aiy hk.1 h.size)).trans (h.block k hk)⟩
theorem Fr.drew {B:Bs}{own:Own}{w:World}(h:Fr B own w):Fr B own { w with drawn:=w.drawn+1}:=⟨h.ids,h.base,h.os,h.tape,h.output,h.size,h.block⟩
theorem Fr.trans {B:Bs}{own own':Own}{w w':World}(h:Fr B own w)(h':Fr { w:=w,own:=own} own' w'):Fr B own' w':=by
 have hold:∀ k,Old B k->Old { w:=w,own:=own} k:=fun k hk=>⟨aiy hk.1 h.size,fun⟨id,hd,hm,hb⟩ =>h.base id hd k hm hb hk⟩;refine⟨fun id hd hi=>?_,fun id hd b hi hb ho=>h'.base id hd b hi hb (hold b ho),h'.os.trans h.os,h'.tape.trans h.tape,h'.output.trans h.output,aiR h.size h'.size,
  fun k hk=>(h'.block k (hold k hk)).trans (h.block k hk)⟩
 obtain⟨hd1,e1,l1⟩:=h.ids id hd hi;obtain⟨hd2,e2,l2⟩:=h'.ids id hd1 e1;exact⟨hd2,e2,l1.trans l2⟩
theorem Fr.goes {F:Nat->Prop}{own own':Own}{w w':World}(h:Fr { w:=w,own:=own} own' w'):Goes F own w own' w':=
 ⟨h.ids,fun b hb hn=>by
  have ho:Old { w:=w,own:=own} b:=⟨hb,fun⟨id,hd,hm,he⟩ =>hn (.inr ⟨id,hd,hm,he⟩)⟩;refine⟨?_,h.block b ho⟩;rintro (hf| ⟨id,hd,hm,he⟩);exact hn (.inl hf);exact h.base id hd b hm he ho,h.size⟩
theorem Fr.of_step {own own':Own}{w w':World}(ids:∀ (id:Nat) (hd:Hd),own id=some hd->∃ hd',own' id=some hd'/\hd.like hd')
  (bs:∀ id hd b,own' id=some hd->b∈hd.bs->(∃ id' hd',own id'=some hd'/\b∈hd'.bs)\/w.heap.size<=b)
  (block:∀ b,b<w.heap.size->(¬ ∃ id hd,own id=some hd/\b∈hd.bs)->w'.heap[b]? =w.heap[b]?) (size:w.heap.size<=w'.heap.size)
  (os:w'.os=w.os) (tape:w'.tape=w.tape) (output:w'.output=w.output):Fr { w:=w,own:=own} own' w':=
 ⟨ids,fun id hd b h1 h2 ho=>by
  rcases bs id hd b h1 h2 with h|h;exact ho.2 h;have:=ho.1;grind,os,tape,output,size,fun k hk=>block k hk.1 hk.2⟩
theorem I4 {w:World}{b o:Nat}{v:Value}(h:w.cell? ⟨b,o,none⟩=some v):b<w.heap.size:=World.block_lt_of_cell? w _ h
theorem wG {w w':World}{b:Nat}(h:w'.heap[b]? =w.heap[b]?)(o:Nat):w'.cell? ⟨b,o,none⟩=w.cell? ⟨b,o,none⟩:=by
 grind [World.cell?]
theorem qC {w:World}{b:Nat}{o:Obj}(h:w.heap[b]? =some o):b<w.heap.size:=by
 grind
structure Carries (F:Nat->Prop)(own:Own)(w:World)(F':Nat->Prop)(own':Own)(w':World):Prop where
 ids:∀ (id:Nat) (hd:Hd),own id=some hd->∃ hd',own' id=some hd'/\hd.like hd'
 keep:∀ b,b<w.heap.size->¬cm F own b->¬cm F' own' b/\w'.heap[b]? =w.heap[b]?
theorem Goes.carries {F:Nat->Prop}{own own':Own}{w w':World}(g:Goes F own w own' w'):Carries F own w F own' w':=⟨g.ids,g.keep⟩
theorem Rel.carry {F F':Nat->Prop}{own own':Own}{w w':World}(g:Carries F own w F' own' w'){s:SV}{v:Value}(h:Rel F own w s v):Rel F' own' w' s v:=by
 induction h with
 |any v=>exact .any v|v x=>exact .v x
 |ptr h1 h2=>obtain⟨hd',e,l⟩:=g.ids _ _ h1;exact .ptr e (l.1.trans h2)
 |os h1 h2=>obtain⟨hd',e,l⟩:=g.ids _ _ h1;rw[<-l.2.1]at h2 |-;exact .os e h2
 |e0=>exact .e0|rc _ ih=>exact .rc ih
 |rp h1 h2 h3=>obtain⟨hd',e,l⟩:=g.ids _ _ h1;exact .rp e (l.2.1.trans h2) h3
 |gr h1 h2 h3=>obtain⟨hd',e,l⟩:=g.ids _ _ h1;exact .gr e (by rw[l.2.2];exact h2) h3
 |gp h1 h2 h3=>obtain⟨hd',e,l⟩:=g.ids _ _ h1;exact .gp e (by rw[l.2.2];exact h2) h3
 |vw h1 h2 h3=>obtain⟨hd',e,l⟩:=g.ids _ _ h1;exact .vw e (by rw[l.2.1];exact h2) h3
 |ep c h1 _ ih=>
  refine .ep c (fun j s hj=>?_) ih;obtain⟨hn,hc⟩:=h1 j s hj;obtain⟨hn',hk⟩:=g.keep _ (I4 hc) hn;grind [wG]
 |rs c h0 h0' h1 _ ih=>
  refine .rs c h0 h0' (fun i x hi j s hj=>?_) ih;obtain⟨hn,hc⟩:=h1 i x hi j s hj;obtain⟨hn',hk⟩:=g.keep _ (I4 hc) hn;grind [wG]
 |rs0=>exact .rs0
 |ls c h0 h1 _ ih=>
  refine .ls c h0 (fun j s hj=>?_) ih;obtain⟨hn,hc⟩:=h1 j s hj;obtain⟨hn',hk⟩:=g.keep _ (I4 hc) hn;grind [wG]
 |rm ck cv es clock h0 h1 h2 h3 _ _ ih1 ih2=>
  obtain⟨hn',hk⟩:=g.keep _ (qC h1) h0;exact .rm ck cv es clock hn' (by grind) h2 h3 ih1 ih2
 |rm0=>exact .rm0|agg h0 _ ih=>exact .agg h0 ih|tup h0 _ ih=>exact .tup h0 ih|fn h0 h0' _ _ ih1 ih2=>exact .fn h0 h0' ih1 ih2
theorem Rel.mono {F:Nat->Prop}{own own':Own}{w w':World}(g:Goes F own w own' w'){s:SV}{v:Value}(h:Rel F own w s v):Rel F own' w' s v:=h.carry g.carries
theorem Goes.refl (F:Nat->Prop)(own:Own)(w:World):Goes F own w own w:=⟨fun _ hd h=>⟨hd,h,.refl _⟩,fun _ _ h=>⟨h,rfl⟩,aio _⟩
theorem ur (w:World)(o:Obj)(b:Nat)(h:b<w.heap.size):(w.alloc o).heap[b]? =w.heap[b]?:=Below.heap_alloc w o b h
theorem nO (w:World)(o:Obj):(w.alloc o).heap[w.heap.size]? =some o:=by show(w.heap.push o)[w.heap.size]? =_;simp
theorem My (w:World)(o:Obj):(w.alloc o).heap.size=w.heap.size+1:=by simp_all
theorem Goes.below (F:Nat->Prop)(own:Own){w w':World}(h:Below w.heap.size w w'):Goes F own w own w':=
 ⟨fun _ hd h=>⟨hd,h,.refl _⟩,fun b hb hn=>⟨hn,h.block b hb⟩,h.size⟩
theorem sL (w:World)(o:Obj):Below w.heap.size w (w.alloc o):=(Below.refl _ _).alloc (aio _) o
theorem ip {α:Type}:∀ (l:List α) (i:Nat),nth l i=l[i]?
 | [],i=>by simp[nth]
 |x::r,0=>by simp[nth]
 |x::r,i+1=>by simp[nth,ip r i]
theorem tJ:∀ l:List SV,sz l=l.length
 | [] =>rfl
 |x::r=>by simp[sz,tJ r]
theorem I5:∀ (n:Nat) (l:List SV),cut n l=l.take n
 |0,l=>by simp[cut]
 |n+1,[] =>by simp[cut]
 |n+1,x::r=>by simp[cut,I5 n r]
theorem D_:∀ (n:Nat) (l:List SV),Kl n l=l.drop n
 |0,l=>by simp[Kl]
 |n+1,[] =>by simp[Kl]
 |n+1,x::r=>by simp[Kl,D_ n r]
theorem Bu:∀ (l:List SV) (i:Nat) (s:SV),EF l i s=l.set i s
 | [],i,s=>by simp[EF]
 |x::r,0,s=>by simp[EF]
 |x::r,i+1,s=>by simp[EF,Bu r i s]
theorem pG:∀ (vs cells:List SV) (off:Nat),(iH cells off vs).length=cells.length
 | [],cells,off=>rfl
 |x::xs,cells,off=>by simp[iH,pG xs,Bu]
theorem qD:∀ (vs cells:List SV) (off:Nat),off+vs.length<=cells.length->∀ j,(iH cells off vs)[j]? =if off<=j/\j<off+vs.length then vs[j - off]? else cells[j]?
 | [],cells,off,_,j=>by simp_all [iH,if_neg]
 |x::xs,cells,off,h,j=>by
  simp only[ais]at h;rw[iH,qD xs _ _ (by simp[Bu];omega),Bu];grind
theorem tV:∀ (h:List Ob) (id:Nat),ar h id=(h[id]?).getD .dead
 | [],id=>by simp[ar]
 |o::r,0=>by simp[ar]
 |o::r,n+1=>by simp[ar,tV r n]
theorem dv:∀ (h:List Ob) (id:Nat) (x:Ob) (j:Nat),ar (bM h id x) j=if id=j then x else ar h j
 | [],0,x,j=>by cases j <;>simp[bM,ar]
 | [],n+1,x,j=>by
  cases j with
  |zero=>simp[bM,ar]|succ j=>simp only[bM,ar,dv [] n x j];by_cases h:n=j <;>simp[h]
 |o::r,0,x,j=>by cases j <;>simp[bM,ar]
 |o::r,n+1,x,j=>by
  cases j with
  |zero=>simp[bM,ar]|succ j=>simp only[bM,ar,dv r n x j];by_cases h:n=j <;>simp[h]
theorem ce:∀ (h:List Ob) (id:Nat) (x:Ob),(bM h id x).length=if id<h.length then h.length else id+1
 | [],0,x=>by simp[bM]
 | [],n+1,x=>by simp[bM,ce [] n x]
 |o::r,0,x=>by simp[bM]
 |o::r,n+1,x=>by simp only[bM,ais,ce r n x];by_cases h:n<r.length <;>simp[h] <;>omega
theorem qE {h:List Ob}{id:Nat}(hi:h.length<=id):ar h id=.dead:=by rw[tV,List.getElem?_eq_none hi];rfl
theorem ut (h l:List Ob)(id:Nat):ar (h++l) id=if id<h.length then ar h id else ar l (id - h.length):=by
 grind [tV]
theorem EY {F:Nat->Prop}{own:Own}{w:World}{s:SV}{v:Value}{l:List SV}(h:Rel F own w s v)(hf:rB s=some l):
  v.cells.size=l.length/\∀ (j:Nat) (x:SV),l[j]? =some x->Rel F own w x (v.cells.getD j undef):=by
 have one:∀ {s:SV} {v:Value},Rel F own w s v->v.cells= #[v]->rB s=some [s]->rB s=some l->v.cells.size=l.length/\∀ (j:Nat) (x:SV),l[j]? =some x->Rel F own w x (v.cells.getD j undef):=by
  intro s v h hc h1 h2;rw[h1]at h2;simp only[aip]at h2;subst h2;rw[hc];refine⟨rfl,fun j x hj=>?_⟩;cases j <;>simp_all
 cases h with
 |any=>simp[rB]at hf
 |v=>
  cases v <;>first|exact one (.v _) rfl rfl hf|simp[rB]at hf
  subst hf;rename_i cs;refine⟨by simp[Value.cells],fun j y hj=>?_⟩;simp at hj;obtain⟨z,hz,rfl⟩:=hj;simp[Value.cells,hz];exact .v _
 |ptr h1 h2=>exact one (.ptr h1 h2) rfl rfl hf|os h1 h2=>exact one (.os h1 h2) (EX h2) rfl hf|e0=>exact one .e0 rfl rfl hf|rc h=>exact one (.rc h) rfl rfl hf|rp h1 h2 h3=>exact one (.rp h1 h2 h3) rfl rfl hf|gr h1 h2 h3=>exact one (.gr h1 h2 h3) (EX h3) rfl hf|gp h1 h2 h3=>exact one (.gp h1 h2 h3) rfl rfl hf|vw h1 h2 h3=>exact one (.vw h1 h2 h3) rfl rfl hf|ep c h1 h2=>exact one (.ep c h1 h2) rfl rfl hf|rs c h0 h0' h1 h2=>exact one (.rs c h0 h0' h1 h2) rfl rfl hf|rs0=>exact one .rs0 rfl rfl hf|ls c h0 h1 h2=>exact one (.ls c h0 h1 h2) rfl rfl hf|rm ck cv es clock h0 h1 h2 h3 h4 h5=>exact one (.rm ck cv es clock h0 h1 h2 h3 h4 h5) rfl rfl hf|rm0=>exact one .rm0 rfl rfl hf|agg h0 h1=>simp[rB]at hf;subst hf;exact⟨h0,h1⟩|tup=>simp[rB]at hf|fn h0 h0' h1 h2=>exact one (.fn h0 h0' h1 h2) rfl rfl hf
end Go.Sx
end
