/- Part of the proof that the law RefuseHolds returns true and leaves its arguments as they were, for all arguments of bulk at most 1048576 (the Upto form). -/
import Derived.Calls
import Derived.Orders
import Derived.Below
import Derived.KernelRfl
import Derived.Laws.Sem
import Derived.Laws.World
import Derived.Laws.Cells
set_option linter.all false
set_option maxHeartbeats 4000000
set_option maxRecDepth 100000
namespace Go.Sx
theorem g5{p:Prop}(h:p:=by omega):p:=h
theorem g6{p:Prop}(h:p:=by grind):p:=h
def aoj:=@Bool.and_eq_true
def aok:=@Nat.eq_of_beq_eq_true
def aol:=@Int.toNat_natCast
def aom:=@Nat.le_refl
def aon:=@List.length_cons
def aoo:=@Option.some.injEq
def aop:=@List.getElem?_eq_some_iff
def aoq:=@List.length_append
def aor:=@List.mem_cons_of_mem
def aos:=@List.nil_append
def aot:=@Bool.false_eq_true
def aou:=@Nat.zero_add
def aov:=@List.getElem?_eq_getElem
def aow:=@List.mem_cons_self
def aox:=@Bool.not_eq_true'
def aoy:=@Nat.lt_of_lt_of_le
def aoz:=@Nat.mul_le_mul_right
def aoA:=@Nat.le_trans
def aoB:=@List.mem_of_getElem?
def aoC:=@List.append_nil
def aoD:=@List.mem_cons
def aoE:=@List.eq_nil_of_length_eq_zero
def aoF:=@List.flatMap_cons
def aoG:=@List.pairwise_append
def aoH:=@Bool.not_true
def aoI:=@List.length_nil
def aoJ:=@List.cons_append
def aoK:=@Sum.inr.injEq
def aoL:=@Array.getElem?_append_left
def aoM:=@List.getElem_of_mem
def aoN:=@Bool.or_eq_true
def aoO:=@List.map_cons
def aoP:=@Array.getD_eq_getD_getElem?
def aoQ:=@List.mem_append
def aoR:=@Bool.cond_eq_ite
def aoS:=@Bool.not_false
def aoT:=@Sem.run_bind
def aoU:=@Classical.byContradiction
def aoV:=@Nat.zero_le
def aoW:=@Result.andThen_ok
def aoX:=@List.take_succ_eq_append_getElem
def aoY:=@Bool.or_eq_false_iff
def aoZ:=@List.map_nil
def ao0:=@List.mem_iff_getElem
def ao1:=@List.pairwise_singleton
def ao2:=@List.nodup_cons
def ao3:=@List.pairwise_iff_getElem
def ao4:=@List.all_eq_true
def ao5:=@Int.mul_le_mul_of_nonneg_right
def ao6:=@List.mem_singleton
def ao7:=@Int.le_refl
def ao8:=@List.length_pos_iff
def ao9:=@List.getElem?_of_mem
def ao_:=@List.append_assoc
def apa:=@List.length_filter_le
def apb:=@List.mem_map
def apc:=@List.pairwise_cons
def apd:=@List.length_map
def ape:=@Bool.eq_iff_iff
def apf:=@List.flatMap_nil
def apg:=@List.getElem_mem
def aph:=@List.length_take
def apj:=@List.getElem?_map
def apk:=@List.pairwise_mergeSort
def apl:=@List.getElem?_append
def apm:=@List.mem_of_mem_take
def apn:=@List.not_mem_nil
def apo:=@List.mergeSort_perm
def apq:=@Int.toNat_of_nonneg
def apr:=@List.take_append_drop
def aps:=@Bool.and_eq_false_iff
def apt:=@Nat.lt_irrefl
def apu:=@List.Perm.eq_of_pairwise
def apv:=@Nat.lt_or_ge
def apw:=@Nat.le_mul_of_pos_right
def apx:=@List.any_eq_true
def apy:=@Int.eq_ofNat_of_zero_le
def apz:=@Option.map_eq_some_iff
def apA:=@List.range'_succ
def apB:=@List.length_drop
def apC:=@Bool.not_eq_false'
def apD:=@List.take_length
def apE:=@Nat.add_zero
def apF:=@List.nodup_append
def apG:=@Array.getElem?_append_right
def apH:=@Int.le_ediv_iff_mul_le
def apI:=@Nat.add_assoc
def apJ:=@List.mem_flatMap
def apK:=@Bool.not_eq_true
def apL:=@List.nodup_nil
def apM:=@List.getElem?_append_right
def apN:=@List.mem_range
def apP:=@Int.tmod_eq_emod_of_nonneg
def apQ:=@List.mem_append_right
def apR:=@Array.getElem?_eq_getElem
def apS:=@List.cons.injEq
def apT:=@List.map_append
def apU:=@List.length_range
def apV:=@Bool.false_or
def apW:=@Bool.or_false
def apX:=@Bool.true_and
def apY:=@List.length_filterMap_le
def apZ:=@List.mem_map_of_mem
def ap0:=@List.flatMap_append
def ap1:=@Option.bind_some
def ap2:=@List.flatMap_eq_nil_iff
def ap3:=@List.take_zero
def ap4:=@Int.ediv_le_ediv
def ap5:=@Int.mul_le_mul_of_nonneg_left
def ap6:=@Int.emod_lt_of_pos
def ap7:=@List.eq_nil_or_concat
def ap8:=@List.concat_eq_append
def ap9:=@Int.mul_ediv_add_emod
def ap_:=@List.getElem?_set
def aqa:=@List.size_toArray
def aqb:=@List.pairwise_map
def aqc:=@Array.getElem?_eq_some_iff
def aqd:=@Int.mul_nonneg
def aqe:=@Int.le_of_mul_le_mul_right
def aqf:=@Nat.succ_mul
def aqg:=@Nat.sub_self
def aqh:=@List.getElem?_append_left
def aqi:=@List.IsPrefix.trans
def aqj:=@Option.isSome_iff_exists
def aqk:=@Bool.eq_false_or_eq_true
def aql:=@Option.map_some
def aqm:=@Int.emod_nonneg
def aqn:=@List.length_set
def aqo:=@List.range_succ
def aqp:=@List.mem_filter
def aqq:=@Nat.mod_lt
def aqr:=@Int.lt_tmod_of_pos
def aqs:=@List.filter_filter
def aqt:=@List.length_range'
def aqu:=@Nat.mul_one
def aqv:=@List.pairwise_filterMap
def aqw:=@Value.slice.injEq
def aqx:=@Sem.run_pure
def aqy:=@List.append_eq_nil_iff
def aqz:=@Nat.mul_le_mul
def aqA:=@Array.getElem?_toList
def aqB:=@List.getElem?_toArray
def aqC:=@List.filterMap_append
def aqD:=@Array.eq_empty_of_size_eq_zero
def aqE:=@List.eq_nil_iff_forall_not_mem
def aqF:=@Int.ediv_le_self
def aqG:=@List.mem_append_left
def aqH:=@Nat.div_le_self
def aqI:=@List.filter_eq_self
def aqJ:=@List.getD_cons_zero
def aqK:=@List.getElem?_drop
def aqL:=@Nat.add_sub_cancel
def aqM:=@List.filter_append
def aqN:=@List.getD_eq_getElem?_getD
def aqO:=@Int.cast_ofNat_Int
def aqP:=@Nat.add_mul
def aqQ:=@Int.lt_trichotomy
def aqR:=@Nat.gcd_pos_of_pos_right
def aqS:=@Int.mul_tdiv_cancel_left
def aqT:=@List.filterMap_cons_some
def aqU:=@List.filterMap_cons_none
def aqV:=@Nat.mod_eq_of_lt
def aqW:=@List.getElem?_cons_zero
def aqX:=@List.getElem?_cons_succ
def aqY:=@List.drop_length
def aqZ:=@List.ext_getElem
def aq0:=@Int.tmod_eq_emod
def aq1:=@Nat.add_sub_cancel_left
def aq2:=@List.drop_eq_nil_of_le
def aq3:=@Bool.true_or
def aq4:=@Int.le_trans
def aq5:=@List.length_eq_one_iff
def aq6:=@Classical.em
def aq7:=@Array.getElem?_modify
def aq8:=@List.length_mergeSort
def aq9:=@List.pairwise_flatMap
def aq_:=@List.pairwise_reverse
def ara:=@Array.getElem_of_mem
def arb:=@List.drop_drop
def arc:=@List.perm_cons_erase
def ard:=@Int.natAbs_mul
def are:=@Bool.false_and
def arf:=@List.mem_of_mem_drop
def arg:=@Int.toNat_zero
def arh:=@Iff.trans
def ari:=@Addr.mk.injEq
def arj:=@Int.lt_irrefl
def ark:=@Bool.and_true
def arl:=@List.sum_cons
def arm:=@Array.foldl_toList
def arn:=@Nat.div_mul_cancel
def aro:=@Nat.eq_or_lt_of_le
def arp:=@Int.add_emod_right
def arq:=@Int.tmod_lt_of_pos
def ars:=@List.mem_filterMap
def aru:=@Nat.beq_refl
def ary:=@Nat.zero_mul
def arA:=@Array.ext
def arB:=@Nat.sub_mul
def arC:=@Iff.rfl
end Go.Sx
section
namespace Go.Sx
open Go.RowKit
structure Range where
 lo:Int
 hi:Int
 deriving Inhabited,DecidableEq
structure api where
 n:Int
 d:Int
 deriving Inhabited,DecidableEq
structure Reach where
 name:ByteArray
 up:Int
 delay:Int
 cap:Int
 ar6:Int
 arR:Int
 asu:Range
 ar3:api×api
 deriving Inhabited,DecidableEq
structure asR where
 name:ByteArray
 reach:Int
 ati:Int
 asn:Int
 deriving Inhabited,DecidableEq
structure atj where
 name:ByteArray
 need:Int
 deriving Inhabited,DecidableEq
structure ar4 where
 name:ByteArray
 kind:Int
 dd:Int
 reach:Int
 arM:Int
 bl:Int
 since:Int
 to:Int
 every:Int
 length:Int
 deriving Inhabited,DecidableEq
structure atl where
 name:ByteArray
 dd:Int
 reach:Int
 due:Int
 deriving Inhabited,DecidableEq
structure atm where
 dd:Int
 reach:Int
 d:Int
 kernel:List Int
 deriving Inhabited,DecidableEq
structure Part where
 dd:Int
 share:api
 deriving Inhabited,DecidableEq
structure bn where
 no:Int
 kind:Int
 right:Int
 since:Int
 to:Int
 parts:List Part
 of_:Int
 at_:Int
 known:Int
 deriving Inhabited,DecidableEq
structure Y2 where
 reach:Int
 hour:Int
 bl:Int
 wanted:Int
 deriving Inhabited,DecidableEq
structure Claim where
 right:Int
 dd:Int
 hour:Int
 bl:Int
 arM:Int
 deriving Inhabited,DecidableEq
structure Order where
 hour:Int
 index:Int
 bl:Int
 S2:Bool
 deriving Inhabited,DecidableEq
structure arv where
 W2:Claim
 reach:Int
 deriving Inhabited,DecidableEq
structure B1 where
 kind:Int
 hour:Int
 index:Int
 bl:Int
 limit:Int
 deriving Inhabited,DecidableEq
structure arF where
 dd:Int
 reach:Int
 deriving Inhabited,DecidableEq
structure Q1 where
 hour:Int
 index:Int
 S2:Bool
 deriving Inhabited,DecidableEq
structure arI where
 right:Int
 dd:Int
 bl:Int
 arM:Int
 deriving Inhabited,DecidableEq
structure tm where
 index:Int
 hour:Int
 deriving Inhabited,DecidableEq
structure G2 where
 right:Int
 dd:Int
 deriving Inhabited,DecidableEq
structure asW where
 cap:Int
 start:Int
 deriving Inhabited,DecidableEq
structure ah where
 name:ByteArray
 hours:Int
 arJ:asW
 reaches:List Reach
 zs:List asR
 arU:List atj
 bh:List ar4
 arL:List atl
 asl:List atm
 deriving Inhabited,DecidableEq
structure arO where
 bh:List Int
 kind:Int
 reach:Int
 hour:Int
 arz:List Y2
 deriving Inhabited,DecidableEq
structure P1 where
 d:ah
 c:List Claim
 deriving Inhabited,DecidableEq
structure asf where
 asV:List (Int×Int)
 owned:List (arF×Bool)
 asM:List (arF×Bool)
 deriving Inhabited,DecidableEq
structure C1 where
 d:ah
 l:List Order
 bl:List (Q1×Int)
 ass:List (List Int)
 drawn:List (List Int)
 deriving Inhabited,DecidableEq
inductive Tag where
 |reach|dd|asn|right|asy|int|asz|part|M1|arH|W2|order|arQ|arx|fault|bool|ints|art|W1|fnc|holding|bo|pq|arJ|al|refusal|range|ratio|ast|S1|ar0|A1|str
 deriving DecidableEq
abbrev Tag.T:Tag->Type
 | .reach=>Reach| .dd=>asR| .asn=>atj| .right=>ar4| .asy=>atl| .int=>Int| .asz=>atm| .part=>Part| .M1=>bn| .arH=>Y2| .W2=>Claim| .order=>Order| .arQ=>Int×Int| .arx=>arv| .fault=>B1| .bool=>Bool| .ints=>List Int| .art=>arF| .W1=>Q1| .fnc=>Option Nat| .holding=>arI| .bo=>tm| .pq=>G2| .arJ=>asW| .al=>ah| .refusal=>arO| .range=>Range| .ratio=>api| .ast=>api×api| .S1=>P1| .ar0=>asf| .A1=>C1| .str=>ByteArray
def Bk:Tag->Nat
 | .reach=>0| .dd=>1| .asn=>2| .right=>3| .asy=>4| .int=>5| .asz=>6| .part=>7| .M1=>8| .arH=>9| .W2=>10| .order=>11| .arQ=>12| .arx=>13| .fault=>14| .bool=>15| .ints=>16| .art=>17| .W1=>18| .fnc=>19| .holding=>20| .bo=>21| .pq=>22| .arJ=>23| .al=>24| .refusal=>25| .range=>26| .ratio=>27| .ast=>28| .S1=>29| .ar0=>30| .A1=>31| .str=>32
def arM:Tag->Nat
 | .reach=>0| .dd=>0| .asn=>0| .right=>0| .asy=>0| .int=>0| .asz=>1| .part=>0| .M1=>1| .arH=>0| .W2=>0| .order=>0| .arQ=>0| .arx=>0| .fault=>0| .bool=>0| .ints=>1| .art=>0| .W1=>0| .fnc=>1| .holding=>0| .bo=>0| .pq=>0| .arJ=>0| .al=>2| .refusal=>1| .range=>0| .ratio=>0| .ast=>0| .S1=>2| .ar0=>1| .A1=>2| .str=>0
def Tag.ofName:String->Option Tag
 | "api.Reach" =>some .reach
 | "api.Farm" =>some .dd
 | "api.Crop" =>some .asn
 | "api.Right" =>some .right
 | "api.Duty" =>some .asy
 | "api.Errno" =>some .int
 | "expand.refused" =>some .int
 | "int" =>some .int
 | "int64" =>some .int
 | "api.Well" =>some .asz
 | "api.Part" =>some .part
 | "api.Deed" =>some .M1
 | "api.Parcel" =>some .arH
 | "api.Claim" =>some .W2
 | "api.Order" =>some .order
 | "[2]int" =>some .arQ
 | "refuse.place" =>some .arQ
 | "claims.found" =>some .arx
 | "api.Fault" =>some .fault
 | "bool" =>some .bool
 | "[]int" =>some .ints
 | "claims.use" =>some .art
 | "certify.place" =>some .W1
 | "func(api.Order) int" =>some .fnc
 | "func(register.book, api.Deed, int)" =>some .fnc
 | "iter.Seq[acequia/api.Fault]" =>some .fnc
 | "api.Holding" =>some .holding
 | "timetable.slot" =>some .bo
 | "register.title" =>some .pq
 | "api.Tank" =>some .arJ
 | "api.District" =>some .al
 | "api.Refusal" =>some .refusal
 | "api.Range" =>some .range
 | "api.Ratio" =>some .ratio
 | "[2]api.Ratio" =>some .ast
 | "refuse.scene" =>some .S1
 | "claims.law" =>some .ar0
 | "certify.table" =>some .A1
 | "string" =>some .str
 |_=>none
instance instDecTag:(k:Tag)->DecidableEq k.T
 | .reach=>inferInstanceAs (DecidableEq (Reach))| .dd=>inferInstanceAs (DecidableEq (asR))| .asn=>inferInstanceAs (DecidableEq (atj))| .right=>inferInstanceAs (DecidableEq (ar4))| .asy=>inferInstanceAs (DecidableEq (atl))| .int=>inferInstanceAs (DecidableEq (Int))| .asz=>inferInstanceAs (DecidableEq (atm))| .part=>inferInstanceAs (DecidableEq (Part))| .M1=>inferInstanceAs (DecidableEq (bn))| .arH=>inferInstanceAs (DecidableEq (Y2))| .W2=>inferInstanceAs (DecidableEq (Claim))| .order=>inferInstanceAs (DecidableEq (Order))| .arQ=>inferInstanceAs (DecidableEq (Int×Int))| .arx=>inferInstanceAs (DecidableEq (arv))| .fault=>inferInstanceAs (DecidableEq (B1))| .bool=>inferInstanceAs (DecidableEq (Bool))| .ints=>inferInstanceAs (DecidableEq (List Int))| .art=>inferInstanceAs (DecidableEq (arF))| .W1=>inferInstanceAs (DecidableEq (Q1))| .fnc=>inferInstanceAs (DecidableEq (Option Nat))| .holding=>inferInstanceAs (DecidableEq (arI))| .bo=>inferInstanceAs (DecidableEq (tm))| .pq=>inferInstanceAs (DecidableEq (G2))| .arJ=>inferInstanceAs (DecidableEq (asW))| .al=>inferInstanceAs (DecidableEq (ah))| .refusal=>inferInstanceAs (DecidableEq (arO))| .range=>inferInstanceAs (DecidableEq (Range))| .ratio=>inferInstanceAs (DecidableEq (api))| .ast=>inferInstanceAs (DecidableEq (api×api))| .S1=>inferInstanceAs (DecidableEq (P1))| .ar0=>inferInstanceAs (DecidableEq (asf))| .A1=>inferInstanceAs (DecidableEq (C1))| .str=>inferInstanceAs (DecidableEq (ByteArray))
structure Res where
 yv:Value
 n:Nat
 R:(Nat->Prop)->List Nat->World->Prop
 loc:∀ (F F':Nat->Prop) (bs:List Nat) (w w':World),R F bs w->w.heap.size<=w'.heap.size->(∀ b,b<w.heap.size->¬F b->w'.heap[b]? =w.heap[b]?)->(∀ b,b<w.heap.size->F' b->F b)->R F' bs w'
instance:Inhabited Res:=⟨⟨.nilFunc,0,λ_ _ _=>True,λ_ _ _ _ _ _ _ _ _=>trivial⟩⟩
inductive SV where
 |any
 |v (x:Value)
 |ptr (id off:Nat)
 |os (id:Nat)
 |e0
 |rp (sz id:Nat) (i:Int) (off:Nat)
 |gr (id:Nat) (i:Int)
 |gp (sz id:Nat) (i j:Int) (off:Nat)
 |ep (cells:List SV) (off:Nat)
 |rs (k:Tag) (l:List k.T)
 |ls (s:Nat) (l:List SV)
 |rm (kk vk:Tag) (l:List (kk.T×vk.T))
 |agg (l:List SV)
 |tup (l:List SV)
 |fn (f:FuncId) (first caps:List SV)
 |nw (k:Tag) (l:List k.T)
 |nm (kk vk:Tag) (l:List (kk.T×vk.T))
 |ng (k:Tag) (l:List (List k.T))
 |gd (j:Nat) (want:Bool) (s:SV)
 |vw (sz id:Nat) (lo hi:Int)
 |rc (k:Tag) (l:List k.T)
 deriving Inhabited
abbrev SV.i (n:Int):SV:=.v (.int .i64 n)
abbrev SV.b (x:Bool):SV:=.v (.bool x)
abbrev SV.s (x:ByteArray):SV:=.v (.string x)
def fnV:Option Nat->SV|some f=>.fn f [] [] |none=>.v .nilFunc
def cellsOf:(k:Tag)->k.T->List SV
 | .reach,x=>[.v (.string x.name),.i x.up,.i x.delay,.i x.cap,.i x.ar6,.i x.arR,.i x.asu.lo,.i x.asu.hi,.i x.ar3.1.n,.i x.ar3.1.d,.i x.ar3.2.n,.i x.ar3.2.d]| .dd,x=>[.v (.string x.name),.i x.reach,.i x.ati,.i x.asn]| .asn,x=>[.v (.string x.name),.i x.need]| .right,x=>[.v (.string x.name),.i x.kind,.i x.dd,.i x.reach,.i x.arM,.i x.bl,.i x.since,.i x.to,.i x.every,.i x.length]| .asy,x=>[.v (.string x.name),.i x.dd,.i x.reach,.i x.due]| .int,x=>[.i x]| .asz,x=>[.i x.dd,.i x.reach,.i x.d,.rs .int x.kernel]| .part,x=>[.i x.dd,.i x.share.n,.i x.share.d]| .M1,x=>[.i x.no,.i x.kind,.i x.right,.i x.since,.i x.to,.rs .part x.parts,.i x.of_,.i x.at_,.i x.known]| .arH,x=>[.i x.reach,.i x.hour,.i x.bl,.i x.wanted]| .W2,x=>[.i x.right,.i x.dd,.i x.hour,.i x.bl,.i x.arM]| .order,x=>[.i x.hour,.i x.index,.i x.bl,.v (.bool x.S2)]| .arQ,x=>[.i x.1,.i x.2]| .arx,x=>[.i x.W2.right,.i x.W2.dd,.i x.W2.hour,.i x.W2.bl,.i x.W2.arM,.i x.reach]| .fault,x=>[.i x.kind,.i x.hour,.i x.index,.i x.bl,.i x.limit]| .bool,x=>[.v (.bool x)]| .ints,x=>[.rs .int x]| .art,x=>[.i x.dd,.i x.reach]| .W1,x=>[.i x.hour,.i x.index,.v (.bool x.S2)]| .fnc,x=>[fnV x]| .holding,x=>[.i x.right,.i x.dd,.i x.bl,.i x.arM]| .bo,x=>[.i x.index,.i x.hour]| .pq,x=>[.i x.right,.i x.dd]| .arJ,x=>[.i x.cap,.i x.start]| .al,x=>[.v (.string x.name),.i x.hours,.i x.arJ.cap,.i x.arJ.start,.rs .reach x.reaches,.rs .dd x.zs,.rs .asn x.arU,.rs .right x.bh,.rs .asy x.arL,.rs .asz x.asl]| .refusal,x=>[.rs .int x.bh,.i x.kind,.i x.reach,.i x.hour,.rs .arH x.arz]| .range,x=>[.i x.lo,.i x.hi]| .ratio,x=>[.i x.n,.i x.d]| .ast,x=>[.i x.1.n,.i x.1.d,.i x.2.n,.i x.2.d]| .S1,x=>[.v (.string x.d.name),.i x.d.hours,.i x.d.arJ.cap,.i x.d.arJ.start,.rs .reach x.d.reaches,.rs .dd x.d.zs,.rs .asn x.d.arU,.rs .right x.d.bh,.rs .asy x.d.arL,.rs .asz x.d.asl,.rs .W2 x.c]| .ar0,x=>[.rm .int .int x.asV,.rm .art .bool x.owned,.rm .art .bool x.asM]| .A1,x=>[.v (.string x.d.name),.i x.d.hours,.i x.d.arJ.cap,.i x.d.arJ.start,.rs .reach x.d.reaches,.rs .dd x.d.zs,.rs .asn x.d.arU,.rs .right x.d.bh,.rs .asy x.d.arL,.rs .asz x.d.asl,.rs .order x.l,.rm .W1 .int x.bl,.rs .ints x.ass,.rs .ints x.drawn]| .str,x=>[.v (.string x)]
def aa:Tag->Nat
 | .reach=>12| .dd=>4| .asn=>2| .right=>10| .asy=>4| .int=>1| .asz=>4| .part=>3| .M1=>9| .arH=>4| .W2=>5| .order=>4| .arQ=>2| .arx=>6| .fault=>5| .bool=>1| .ints=>1| .art=>2| .W1=>3| .fnc=>1| .holding=>4| .bo=>2| .pq=>2| .arJ=>2| .al=>10| .refusal=>5| .range=>2| .ratio=>2| .ast=>4| .S1=>11| .ar0=>3| .A1=>14| .str=>1
theorem cm (k:Tag)(x:k.T):(cellsOf k x).length=aa k:=by cases k <;>rfl
def fg:(k:Tag)->k.T
 | .reach=>(default:Reach)| .dd=>(default:asR)| .asn=>(default:atj)| .right=>(default:ar4)| .asy=>(default:atl)| .int=>(0:Int)| .asz=>(default:atm)| .part=>(default:Part)| .M1=>(default:bn)| .arH=>(default:Y2)| .W2=>(default:Claim)| .order=>(default:Order)| .arQ=>(default:Int×Int)| .arx=>(default:arv)| .fault=>(default:B1)| .bool=>false| .ints=>(default:List Int)| .art=>(default:arF)| .W1=>(default:Q1)| .fnc=>(default:Option Nat)| .holding=>(default:arI)| .bo=>(default:tm)| .pq=>(default:G2)| .arJ=>(default:asW)| .al=>(default:ah)| .refusal=>(default:arO)| .range=>(default:Range)| .ratio=>(default:api)| .ast=>(default:api×api)| .S1=>(default:P1)| .ar0=>(default:asf)| .A1=>(default:C1)| .str=>(ByteArray.mk #[])
inductive Kd where
 |s|b|n (k:IntKind) |r (k:Tag) |m (k k2:Tag) |f
def pP:Tag->Bool
 | .reach=>true| .dd=>true| .asn=>true| .right=>true| .asy=>true| .int=>false| .asz=>true| .part=>true| .M1=>true| .arH=>true| .W2=>true| .order=>true| .arQ=>true| .arx=>true| .fault=>true| .bool=>false| .ints=>false| .art=>true| .W1=>true| .fnc=>false| .holding=>true| .bo=>true| .pq=>true| .arJ=>true| .al=>true| .refusal=>true| .range=>true| .ratio=>true| .ast=>true| .S1=>true| .ar0=>true| .A1=>true| .str=>false
def NJ:(k:Tag)->List (List k.T)->SV
 | .int,l=>.rs .ints l|_,_=>.any
def ez:Tag->List Kd
 | .reach=>[.s,.n .i64,.n .i64,.n .i64,.n .i64,.n .i64,.n .i64,.n .i64,.n .i64,.n .i64,.n .i64,.n .i64]| .dd=>[.s,.n .i64,.n .i64,.n .i64]| .asn=>[.s,.n .i64]| .right=>[.s,.n .i64,.n .i64,.n .i64,.n .i64,.n .i64,.n .i64,.n .i64,.n .i64,.n .i64]| .asy=>[.s,.n .i64,.n .i64,.n .i64]| .int=>[.n .i64]| .asz=>[.n .i64,.n .i64,.n .i64,.r .int]| .part=>[.n .i64,.n .i64,.n .i64]| .M1=>[.n .i64,.n .i64,.n .i64,.n .i64,.n .i64,.r .part,.n .i64,.n .i64,.n .i64]| .arH=>[.n .i64,.n .i64,.n .i64,.n .i64]| .W2=>[.n .i64,.n .i64,.n .i64,.n .i64,.n .i64]| .order=>[.n .i64,.n .i64,.n .i64,.b]| .arQ=>[.n .i64,.n .i64]| .arx=>[.n .i64,.n .i64,.n .i64,.n .i64,.n .i64,.n .i64]| .fault=>[.n .i64,.n .i64,.n .i64,.n .i64,.n .i64]| .bool=>[.b]| .ints=>[.r .int]| .art=>[.n .i64,.n .i64]| .W1=>[.n .i64,.n .i64,.b]| .fnc=>[.f]| .holding=>[.n .i64,.n .i64,.n .i64,.n .i64]| .bo=>[.n .i64,.n .i64]| .pq=>[.n .i64,.n .i64]| .arJ=>[.n .i64,.n .i64]| .al=>[.s,.n .i64,.n .i64,.n .i64,.r .reach,.r .dd,.r .asn,.r .right,.r .asy,.r .asz]| .refusal=>[.r .int,.n .i64,.n .i64,.n .i64,.r .arH]| .range=>[.n .i64,.n .i64]| .ratio=>[.n .i64,.n .i64]| .ast=>[.n .i64,.n .i64,.n .i64,.n .i64]| .S1=>[.s,.n .i64,.n .i64,.n .i64,.r .reach,.r .dd,.r .asn,.r .right,.r .asy,.r .asz,.r .W2]| .ar0=>[.m .int .int,.m .art .bool,.m .art .bool]| .A1=>[.s,.n .i64,.n .i64,.n .i64,.r .reach,.r .dd,.r .asn,.r .right,.r .asy,.r .asz,.r .order,.m .W1 .int,.r .ints,.r .ints]| .str=>[.s]
def toI:SV->Int| .v (.int _ n) =>n|_=>0
def toB:SV->Bool| .v (.bool b) =>b|_=>false
def toS:SV->ByteArray| .v (.string s) =>s|_=>ByteArray.mk #[]
def toF:SV->Option Nat| .fn f [] [] =>some f|_=>none
def vX:SV->List Reach| .rs .reach l=>l|_=>[]
def yl:SV->List asR| .rs .dd l=>l|_=>[]
def ym:SV->List atj| .rs .asn l=>l|_=>[]
def vY:SV->List ar4| .rs .right l=>l|_=>[]
def yn:SV->List atl| .rs .asy l=>l|_=>[]
def Bl:SV->List Int| .rs .int l=>l|_=>[]
def yo:SV->List atm| .rs .asz l=>l|_=>[]
def FR:SV->List Part| .rs .part l=>l|_=>[]
def V_:SV->List bn| .rs .M1 l=>l|_=>[]
def AD:SV->List Y2| .rs .arH l=>l|_=>[]
def CP:SV->List Claim| .rs .W2 l=>l|_=>[]
def CQ:SV->List Order| .rs .order l=>l|_=>[]
def Wa:SV->List (Int×Int) | .rs .arQ l=>l|_=>[]
def EK:SV->List arv| .rs .arx l=>l|_=>[]
def Ui:SV->List B1| .rs .fault l=>l|_=>[]
def Wb:SV->List Bool| .rs .bool l=>l|_=>[]
def Bm:SV->List (List Int) | .rs .ints l=>l|_=>[]
def I2:SV->List arF| .rs .art l=>l|_=>[]
def CR:SV->List Q1| .rs .W1 l=>l|_=>[]
def aak:SV->List (Option Nat) | .rs .fnc l=>l|_=>[]
def NK:SV->List arI| .rs .holding l=>l|_=>[]
def Bn:SV->List tm| .rs .bo l=>l|_=>[]
def Bo:SV->List G2| .rs .pq l=>l|_=>[]
def Wc:SV->List asW| .rs .arJ l=>l|_=>[]
def Lp:SV->List ah| .rs .al l=>l|_=>[]
def NL:SV->List arO| .rs .refusal l=>l|_=>[]
def Uj:SV->List Range| .rs .range l=>l|_=>[]
def Uk:SV->List api| .rs .ratio l=>l|_=>[]
def QE:SV->List (api×api) | .rs .ast l=>l|_=>[]
def EL:SV->List P1| .rs .S1 l=>l|_=>[]
def I3:SV->List asf| .rs .ar0 l=>l|_=>[]
def CS:SV->List C1| .rs .A1 l=>l|_=>[]
def aal:SV->List ByteArray| .rs .str l=>l|_=>[]
def mX:SV->List (Q1×Int) | .rm .W1 .int l=>l|_=>[]
def lH:SV->List (arF×Bool) | .rm .art .bool l=>l|_=>[]
def yp:SV->List (Int×Int) | .rm .int .int l=>l|_=>[]
def at0:List SV->Nat->SV
 | [],_=>.any|x::_,0=>x|_::r,n+1=>at0 r n
def mkE:(k:Tag)->List SV->k.T
 | .reach,l=>(⟨toS (at0 l 0),toI (at0 l 1),toI (at0 l 2),toI (at0 l 3),toI (at0 l 4),toI (at0 l 5),⟨toI (at0 l 6),toI (at0 l 7)⟩,(⟨toI (at0 l 8),toI (at0 l 9)⟩,⟨toI (at0 l 10),toI (at0 l 11)⟩)⟩:Reach)| .dd,l=>(⟨toS (at0 l 0),toI (at0 l 1),toI (at0 l 2),toI (at0 l 3)⟩:asR)| .asn,l=>(⟨toS (at0 l 0),toI (at0 l 1)⟩:atj)| .right,l=>(⟨toS (at0 l 0),toI (at0 l 1),toI (at0 l 2),toI (at0 l 3),toI (at0 l 4),toI (at0 l 5),toI (at0 l 6),toI (at0 l 7),toI (at0 l 8),toI (at0 l 9)⟩:ar4)| .asy,l=>(⟨toS (at0 l 0),toI (at0 l 1),toI (at0 l 2),toI (at0 l 3)⟩:atl)| .int,l=>(toI (at0 l 0):Int)| .asz,l=>(⟨toI (at0 l 0),toI (at0 l 1),toI (at0 l 2),Bl (at0 l 3)⟩:atm)| .part,l=>(⟨toI (at0 l 0),⟨toI (at0 l 1),toI (at0 l 2)⟩⟩:Part)| .M1,l=>(⟨toI (at0 l 0),toI (at0 l 1),toI (at0 l 2),toI (at0 l 3),toI (at0 l 4),FR (at0 l 5),toI (at0 l 6),toI (at0 l 7),toI (at0 l 8)⟩:bn)| .arH,l=>(⟨toI (at0 l 0),toI (at0 l 1),toI (at0 l 2),toI (at0 l 3)⟩:Y2)| .W2,l=>(⟨toI (at0 l 0),toI (at0 l 1),toI (at0 l 2),toI (at0 l 3),toI (at0 l 4)⟩:Claim)| .order,l=>(⟨toI (at0 l 0),toI (at0 l 1),toI (at0 l 2),toB (at0 l 3)⟩:Order)| .arQ,l=>((toI (at0 l 0),toI (at0 l 1)):Int×Int)| .arx,l=>(⟨⟨toI (at0 l 0),toI (at0 l 1),toI (at0 l 2),toI (at0 l 3),toI (at0 l 4)⟩,toI (at0 l 5)⟩:arv)| .fault,l=>(⟨toI (at0 l 0),toI (at0 l 1),toI (at0 l 2),toI (at0 l 3),toI (at0 l 4)⟩:B1)| .bool,l=>(toB (at0 l 0):Bool)| .ints,l=>(Bl (at0 l 0):List Int)| .art,l=>(⟨toI (at0 l 0),toI (at0 l 1)⟩:arF)| .W1,l=>(⟨toI (at0 l 0),toI (at0 l 1),toB (at0 l 2)⟩:Q1)| .fnc,l=>(toF (at0 l 0):Option Nat)| .holding,l=>(⟨toI (at0 l 0),toI (at0 l 1),toI (at0 l 2),toI (at0 l 3)⟩:arI)| .bo,l=>(⟨toI (at0 l 0),toI (at0 l 1)⟩:tm)| .pq,l=>(⟨toI (at0 l 0),toI (at0 l 1)⟩:G2)| .arJ,l=>(⟨toI (at0 l 0),toI (at0 l 1)⟩:asW)| .al,l=>(⟨toS (at0 l 0),toI (at0 l 1),⟨toI (at0 l 2),toI (at0 l 3)⟩,vX (at0 l 4),yl (at0 l 5),ym (at0 l 6),vY (at0 l 7),yn (at0 l 8),yo (at0 l 9)⟩:ah)| .refusal,l=>(⟨Bl (at0 l 0),toI (at0 l 1),toI (at0 l 2),toI (at0 l 3),AD (at0 l 4)⟩:arO)| .range,l=>(⟨toI (at0 l 0),toI (at0 l 1)⟩:Range)| .ratio,l=>(⟨toI (at0 l 0),toI (at0 l 1)⟩:api)| .ast,l=>((⟨toI (at0 l 0),toI (at0 l 1)⟩,⟨toI (at0 l 2),toI (at0 l 3)⟩):api×api)| .S1,l=>(⟨⟨toS (at0 l 0),toI (at0 l 1),⟨toI (at0 l 2),toI (at0 l 3)⟩,vX (at0 l 4),yl (at0 l 5),ym (at0 l 6),vY (at0 l 7),yn (at0 l 8),yo (at0 l 9)⟩,CP (at0 l 10)⟩:P1)| .ar0,l=>(⟨yp (at0 l 0),lH (at0 l 1),lH (at0 l 2)⟩:asf)| .A1,l=>(⟨⟨toS (at0 l 0),toI (at0 l 1),⟨toI (at0 l 2),toI (at0 l 3)⟩,vX (at0 l 4),yl (at0 l 5),ym (at0 l 6),vY (at0 l 7),yn (at0 l 8),yo (at0 l 9)⟩,CQ (at0 l 10),mX (at0 l 11),Bm (at0 l 12),Bm (at0 l 13)⟩:C1)| .str,l=>(toS (at0 l 0):ByteArray)
def kN:IntKind->Nat
 | .i8=>0| .i16=>1| .i32=>2| .i64=>3| .u8=>4| .u16=>5| .u32=>6| .u64=>7
def fit:Kd->SV->Bool
 | .s,.v (.string _) =>true| .b,.v (.bool _) =>true| .n k,.v (.int k' _) =>Nat.beq (kN k) (kN k')| .r k,.rs k' _=>Nat.beq (Bk k) (Bk k')| .m k k2,.rm k' k2' _=>Nat.beq (Bk k) (Bk k')&&Nat.beq (Bk k2) (Bk k2')| .f,.fn _ [] [] =>true| .f,.v .nilFunc=>true|_,_=>false
def vZ:List Kd->List SV->Bool
 | [],[] =>true|k::ks,x::xs=>fit k x&&vZ ks xs|_,_=>false
def NM:Kd->SV->SV
 | .r k,.v (.slice none 0 0) =>.rs k []| .r k,.e0=>.rs k []| .m k k2,.v (.map none) =>.rm k k2 []|_,s=>s
def AE:List Kd->List SV->List SV
 |k::ks,s::r=>NM k s::AE ks r|_,l=>l
def xN (k:Tag)(l:List SV):Option k.T:=bif vZ (ez k) l then some (mkE k l)else none
def pY (k:Tag)(l:List SV):Option k.T:=xN k (AE (ez k) l)
inductive Pk where
 |st (k:Tag)
 |sl (k:Tag)
 |mp (k k2:Tag)
 |o
def AF:Pk->SV->SV
 | .st k,.agg l=>.agg (AE (ez k) l)| .sl k,s=>NM (.r k) s| .mp k k2,s=>NM (.m k k2) s|_,s=>s
def Bp:List Pk->List SV->List SV
 |p::ps,s::r=>AF p s::Bp ps r|_,l=>l
structure TI where
 size:Nat
 bytes:Nat
 agg:Bool
 zero:List SV
 fields:List (Nat×Nat×Bool)
 elem:Nat
 len:Nat
 isSlice:Bool
 asF:Bool
 tag:Option Tag
 int:Option IntKind
 iface:Bool
 eq:List Nat
 mkt:Option Tag
 mvt:Option Tag
 sc:Nat
def svs (v:Value):List SV:=v.cells.toList.map .v
def pm (P:Program)(t:TypeId):Nat:=match P.info? t with|some i=>i.size|none=>0
def lI (P:Program)(t:TypeId):Bool:=match P.underlying t with|some (.struct _) =>true|some (.array _ _) =>true|_=>false
def cN:Option TypeDesc->Nat
 |some (.int _) =>1|some .string=>2|some .bool=>3|_=>0
def eqFields (P:Program):Nat->List Field->Bool
 |_,[] =>true
 |n,f::r=>(f.name != "_")&&Nat.beq f.offset n&&Nat.blt 0 (cN (P.underlying f.type))&&eqFields P (n+1) r
def pb (P:Program)(t:TypeId)(d:TypeDesc):List Nat:=match d with
 | .struct fs=>bif !P.stoodInHeld t&& !P.eqGuardType P.depth t&&eqFields P 0 fs.toList then fs.toList.map λf=>cN (P.underlying f.type)else []
 | .array n e=>bif !P.eqGuardType P.depth t&&Nat.blt 0 (cN (P.underlying e))&&Nat.beq (pm P e) 1 then List.replicate n (cN (P.underlying e))else []|_=>[]
def sa (P:Program)(t:TypeId):List Nat:=match P.underlying t with
 |some (.struct gs) =>bif !P.stoodInHeld t&&eqFields P 0 gs.toList&&Nat.beq (pm P t) gs.size&&(P.info? t).isSome then gs.toList.map λf=>cN (P.underlying f.type)else []
 |d=>bif Nat.blt 0 (cN d)then [cN d]else []
def v7 (P:Program):Nat->List Field->Bool
 |_,[] =>true
 |n,f::r=>(f.name != "_")&&Nat.beq f.offset n&&Nat.blt 0 (sa P f.type).length&&v7 P (n+(sa P f.type).length) r
def Lq (P:Program)(t:TypeId)(d:TypeDesc):List Nat:=match d with
 | .struct fs=>bif !P.stoodInHeld t&& !P.eqGuardType P.depth t&&v7 P 0 fs.toList then fs.toList.flatMap λf=>sa P f.type else []
 |_=>[]
def Wd (P:Program)(t:TypeId)(d:TypeDesc):List Nat:=match pb P t d with
 | [] =>Lq P t d|l=>l
def SN:SV->SV->Bool
 | .v (.int k a),.v (.int k' b) =>Nat.beq (kN k) (kN k')&&(match a,b with| .ofNat 0,.ofNat 0=>true|_,_=>false)
 | .v (.string a),.v (.string b) =>Nat.beq a.size 0&&Nat.beq b.size 0| .v (.bool false),.v (.bool false) =>true| .rs _ [],.v (.slice none 0 0) =>true| .rm _ _ [],.v (.map none) =>true| .v .nilFunc,.v .nilFunc=>true|_,_=>false
def wS:List SV->List SV->Bool
 | [],[] =>true|a::r,b::s=>SN a b&&wS r s|_,_=>false
def EM:Bool->Bool->Bool
 |true,true=>true|false,false=>true|_,_=>false
def FT:Value->Bool
 | .agg _=>true|_=>false
def FU (P:Program)(t:TypeId)(i:TypeInfo)(k:Tag):Bool:=
 (match i.zero with|some z=>EM (FT z) (pP k) |none=>false)&&Nat.beq i.size (aa k)&&Nat.ble 1 i.bytes&&wS (cellsOf k (fg k)) (match i.zero with|some z=>svs z|none=>[])&&EM (lI P t) (pP k)
def Aj (P:Program)(t:TypeId)(i:TypeInfo):Option Tag:=match Tag.ofName i.str with|some k=>bif FU P t i k then some k else none|none=>none
def NN (P:Program)(t:TypeId):Option Tag:=match P.info? t with|some i=>Aj P t i|none=>none
def kq:Kd->Nat
 | .n _=>1| .s=>2| .b=>3|_=>0
def FV:List Nat->List Nat->Bool
 | [],[] =>true|a::r,b::s=>Nat.beq a b&&FV r s|_,_=>false
def QF (P:Program)(t:TypeId)(k:Tag):Bool:=match P.underlying t with
 |some d=>bif lI P t then FV ((ez k).map kq) (pb P t d)&&Nat.blt 0 (ez k).length else FV ((ez k).map kq) [cN (some d)]&&Nat.blt 0 (cN (some d))|none=>false
def NO (P:Program)(t:TypeId):Option Tag:=match NN P t with|some k=>bif QF P t k then some k else none|none=>none
def eK (P:Program)(t:TypeId)(i:TypeInfo)(d:TypeDesc):TI:=
 {size:=i.size
  bytes:=i.bytes
  agg:=lI P t
  zero:=match i.zero with|some z=>svs z|none=>[]
  fields:=match d with| .struct fs=>fs.toList.map λf=>(f.offset,pm P f.type,lI P f.type) |_=>[]
  elem:=match d with| .slice e=>e| .array _ e=>e| .map _ e=>e|_=>0
  len:=match d with| .array n _=>n|_=>0
  isSlice:=match d with| .slice _=>true|_=>false
  asF:=match d with| .array _ _=>true|_=>false
  tag:=Aj P t i
  int:=match d with| .int k=>some k|_=>none
  iface:=match d with| .interface _=>true|_=>false
  eq:=Wd P t d
  mkt:=match d with| .map k _=>NO P k|_=>none
  mvt:=match d with| .map _ e=>NN P e|_=>none
  sc:=cN (some d)}
def Bq (P:Program)(d:TypeDesc):Bool:=match d with| .struct fs=>fs.toList.all λf=>(P.info? f.type).isSome&&(P.underlying f.type).isSome|_=>true
def ku (P:Program)(t:TypeId):Option TI:=
 match P.info? t,P.underlying t with
 |some i,some d=>bif i.zero.isSome&&Bq P d then some (eK P t i d)else none|_,_=>none
abbrev Tis:=TypeId->Option TI
def Tis.ok (a:Tis)(P:Program):Prop:= ∀ t i,a t=some i->ku P t=some i
inductive Ob where
 |cells (l:List SV)
 |dead
 |row (k:Tag) (l:List k.T)
 |mp (kk vk:Tag) (l:List (kk.T×vk.T)) (asE:Option (Nat×Option kk.T))
 |ar2 (k:Tag) (l:List (List k.T))
 |ab (r:Res)
 |raw (o:Obj)
 |mi (mid:Option Nat) (n:Nat) (left:List Nat) (cur:Option Nat)
 |fwd (n:Option Nat)
 |fz (k:Tag) (l:List k.T)
instance:Inhabited Ob:=⟨.dead⟩
structure St where
 t:List (Nat×SV)
 h:List Ob
 deriving Inhabited
def lk (t:Nat):List (Nat×SV)->SV
 | [] =>.any|(a,s)::r=>bif Nat.beq a t then s else lk t r
def St.put (a:St)(d:Option Nat)(s:SV):St:=match d with|some d=>⟨(d,s)::a.t,a.h⟩ |none=>a
def ap:List Ob->Nat->Ob
 | [],_=>.dead|o::_,0=>o|_::r,n+1=>ap r n
def cW:List Ob->Nat->Ob->List Ob
 | [],0,x=>[x]| [],n+1,x=>.dead::cW [] n x|_::r,0,x=>x::r|o::r,n+1,x=>o::cW r n x
abbrev Up:=Nat×Ob
def noE {κ:Type}:Option (Nat×Option κ)->Bool
 |some (_,some _) =>false|_=>true
def br (h:List Ob):List Up->List Ob
 | [] =>h|(id,o)::r=>br (cW h id o) r
inductive Con where
 |det (pre:Prop) (s:SV)
 |rel (α:Type) (pre:Prop) (post:α->Prop) (out:α->SV)
 |may (ok:Bool) (s:SV) (x:Value)
abbrev m0:=List SV->Option Con
inductive Rs where
 |ret (s:SV) (h:List Ob)
 |pan (x:Value) (h:List Ob)
structure arV where
 α:Type
 pre:Prop
 post:α->Prop
 res:α->Rs
structure as9 where
 α:Type
 pre:Prop
 post:α->Prop
 res:α->Bool×Res
structure Cons where
 p:FuncId->m0
 o:FuncId->List SV->List Ob->Option arV
 y:List SV->Res->Option as9
def qQ:SV->Option (List SV)
 | .agg l=>some l| .v (.agg cs) =>some (cs.toList.map .v)| .v (.tuple _) =>none| .any=>none| .tup _=>none| .gd .. =>none| .nw .. =>none| .nm .. =>none| .ng .. =>none|s=>some [s]
def nth {α:Type}:List α->Nat->Option α
 | [],_=>none|x::_,0=>some x|_::r,n+1=>nth r n
def cut:Nat->List SV->List SV
 |0,_=>[]|_+1,[] =>[]|n+1,x::r=>x::cut n r
def NP:Nat->List SV->List SV
 |0,l=>l|_+1,[] =>[]|n+1,_::r=>NP n r
def sz:List SV->Nat
 | [] =>0|_::r=>sz r+1
def sQ (agg:Bool)(size:Nat)(cells:List SV)(off:Nat):Option SV:=
 bif agg then(bif Nat.ble (off+size) (sz cells)then some (.agg (cut size (NP off cells)))else none)
 else nth cells off
def FW:List SV->Nat->SV->List SV
 | [],_,_=>[]|_::r,0,s=>s::r|x::r,n+1,s=>x::FW r n s
def iG (cells:List SV)(off:Nat):List SV->List SV
 | [] =>cells|x::xs=>iG (FW cells off x) (off+1) xs
section
variable {κ υ:Type}
def jy [DecidableEq κ]:List (κ×υ)->κ->Option υ
 | [],_=>none|(a,b)::r,x=>if x=a then some b else jy r x
def u5 [DecidableEq κ]:List (κ×υ)->κ->υ->List (κ×υ)
 | [],x,y=>[(x,y)]|(a,b)::r,x,y=>if x=a then(x,y)::r else(a,b)::u5 r x y
def QG [DecidableEq κ]:List (κ×υ)->κ->Nat
 | [],_=>0|(a,_)::r,x=>if x=a then 0 else QG r x+1
end
def aC (b a:Tag)(l:List (b.T×a.T))(x:b.T):a.T:=(jy l x).getD (fg a)
def yq (a b:Tag)(l:List (a.T×b.T))(x:a.T):Bool:=(jy l x).isSome
def dF (a b:Tag)(l:List (a.T×b.T))(x:a.T)(y:b.T):List (a.T×b.T):=u5 l x y
def CT {κ υ:Type}[DecidableEq κ]:List (κ×υ)->κ->List (κ×υ)
 | [],_=>[]|(a,b)::r,x=>if x=a then r else(a,b)::CT r x
def ud (a b:Tag)(l:List (a.T×b.T))(x:a.T):List (a.T×b.T):=CT l x
def xO (a b:Tag)(l:List (a.T×b.T))(x:a.T):Nat:=QG l x
def aiw (a b:Tag)(l:List (a.T×b.T))(x:a.T):Option a.T:=if(jy l x).isSome then none else some x
def svT (k:Tag)(x:k.T):SV:=bif pP k then .agg (cellsOf k x)else(nth (cellsOf k x) 0).getD .any
def NQ (k:Tag):Option (List SV)->Option k.T
 |some l=>pY k l|none=>none
def I4:SV->Option (List SV)
 | .agg l=>some l| .v (.agg cs) =>some (cs.toList.map .v)|_=>none
def CU:SV->Option (List SV)
 | .agg _=>none| .v (.agg _) =>none|s=>qQ s
def unT (k:Tag)(s:SV):Option k.T:=bif pP k then NQ k (I4 s)else NQ k (CU s)
inductive OR where
 |val (s:SV)
 |chk (c:Prop) (s:SV)
 |asm (c:Prop) (s:SV)
 |asD (s:SV)
 |eff (c a:Prop) (ups:List Up) (s:SV)
 |call (f:FuncId) (args:List SV)
 |yld (id:Nat) (args:List SV)
 |nxt (id:Nat)
 |amb (p:Bool->Prop)
 |pan (x:Value)
 |bad
structure Cx where
 ts:Tis
 ops:List Oper
 g:Option (Nat×Bool)
 st:St
 nx:Nat
def tx (ops:List Oper):Nat->Option (Nat×Bool)->Nat->Bool->Bool
 |0,_,_,_=>false|_+1,none,_,_=>false|n+1,some (j,b),j',b'=>bif Nat.beq j j'&&EM b b' then true else tx ops n ((nth ops j).bind (·.guard)) j' b'
def bT (ops:List Oper)(g:Option (Nat×Bool)):SV->SV
 | .gd j b s=>bif tx ops ops.length g j b then s else .any| .any=>.any| .v x=>.v x| .ptr a b=>.ptr a b| .os a=>.os a| .e0=>.e0| .rc a b=>.rc a b| .rp a b c d=>.rp a b c d| .gr a b=>.gr a b| .gp a b c d e=>.gp a b c d e| .ep a b=>.ep a b| .rs k l=>.rs k l| .ls s l=>.ls s l| .rm k k2 l=>.rm k k2 l| .agg l=>.agg l| .tup l=>.tup l| .fn f l m=>.fn f l m| .nw k l=>.nw k l| .nm k k2 l=>.nm k k2 l| .ng k l=>.ng k l| .vw a b c d=>.vw a b c d
def raw (t:List (Nat×SV)):Operand->SV
 | .tmp n=>lk n t| .const x=>.v x| .func f=>.fn f [] []| .global _=>.any
def val (a:Cx)(x:Operand):SV:=bT a.ops a.g (raw a.st.t x)
def dO (cx:Cx):List Operand->List SV
 | [] =>[]|x::r=>val cx x::dO cx r
def pZ (cx:Cx):Option Operand->Option SV
 |some x=>some (val cx x)|none=>none
def kv (cx:Cx):List (Nat×Operand)->List (Nat×SV)
 | [] =>[]|(i,x)::r=>(i,val cx x)::kv cx r
def FX:Operand->Bool
 | .const (.bool true) =>true|_=>false
def Br:Operand->Bool
 | .const (.bool false) =>true|_=>false
def NR (ops:List Oper)(j:Nat)(c:Operand):Bool:=
 match (nth ops j).bind (·.dst),c with
 |some d,.tmp t=>Nat.beq d t|_,_=>false
def lV (ops:List Oper)(g:Option (Nat×Bool))(c:Operand)(want:Bool):SV->SV
 | .gd j b s=>bif EM b want&&NR ops j c then s else bT ops g (.gd j b s)|s=>bT ops g s
def FY (a b:Operand):SV->SV->SV->OR
 | .v (.bool x),.v (.bool y),.v (.bool z) =>bif FX a then .val (.b (x||z))else bif Br b then .val (.b (x&&y))else .bad| .v (.bool x),.any,.v (.bool z) =>.chk (x=false) (.b z)| .v (.bool x),.v (.bool y),.any=>.chk (x=true) (.b y)|_,_,_=>.bad
def ol (k:IntKind)(a b:Int):Int:=a.fdiv (2 ^ min b.toNat k.bits)
def au_ (k:IntKind)(a b:Int):Int:=k.wrap (a*2 ^ min b.toNat k.bits)
def aix (k:IntKind)(a b:Int):Int:=k.wrap ((BitVec.ofInt k.bits a&&&BitVec.ofInt k.bits b).toNat:Int)
def orI (k:IntKind)(a b:Int):Int:=k.wrap ((BitVec.ofInt k.bits a|||BitVec.ofInt k.bits b).toNat:Int)
def aiy (k:IntKind)(a b:Int):Int:=k.wrap ((BitVec.ofInt k.bits a ^^^ BitVec.ofInt k.bits b).toNat:Int)
def SO (k:IntKind)(a b:Int):Int:=k.wrap ((BitVec.ofInt k.bits a&&& ~~~(BitVec.ofInt k.bits b)).toNat:Int)
def v8 (op:BinOp)(k:IntKind)(a b:Int):OR:=
 match op with
 | .add=>.val (.v (.int k (k.wrap (a+b))))| .sub=>.val (.v (.int k (k.wrap (a - b))))| .mul=>.val (.v (.int k (k.wrap (a*b))))| .quo=>.chk (b≠0) (.v (.int k (k.wrap (a.tdiv b))))| .rem=>.chk (b≠0) (.v (.int k (a.tmod b)))| .shr=>.chk (0<=b) (.v (.int k (ol k a b)))| .shl=>.chk (0<=b) (.v (.int k (au_ k a b)))| .and=>.val (.v (.int k (aix k a b)))| .or=>.val (.v (.int k (orI k a b)))| .xor=>.val (.v (.int k (aiy k a b)))| .andNot=>.val (.v (.int k (SO k a b)))| .eql=>.val (.v (.bool (a==b)))| .neq=>.val (.v (.bool (a !=b)))| .lss=>.val (.v (.bool (decide (a<b))))| .leq=>.val (.v (.bool (decide (a<=b))))| .gtr=>.val (.v (.bool (decide (a > b))))| .geq=>.val (.v (.bool (decide (a>=b))))
def SP (op:BinOp)(a b:ByteArray):OR:=
 match op with
 | .eql=>.val (.v (.bool (a==b)))| .neq=>.val (.v (.bool (a !=b)))|_=>.bad
def Lr (op:BinOp)(a b:Bool):OR:=
 match op with
 | .eql=>.val (.v (.bool (a==b)))| .neq=>.val (.v (.bool (a !=b)))|_=>.bad
def eqV (c:Nat):SV->SV->Option Bool
 | .v (.int k a),.v (.int k' b) =>bif Nat.beq c 1&&Nat.beq (kN k) (kN k')then some (a==b)else none| .v (.string a),.v (.string b) =>bif Nat.beq c 2 then some (a==b)else none| .v (.bool a),.v (.bool b) =>bif Nat.beq c 3 then some (a==b)else none|_,_=>none
def Bt:Option Bool->Option Bool->Option Bool
 |some a,some b=>some (a&&b)|_,_=>none
def eqL:List Nat->List SV->List SV->Option Bool
 | [],[],[] =>some true|c::cs,x::r,y::s=>Bt (eqV c x y) (eqL cs r s)|_,_,_=>none
def eqO (op:BinOp):Option Bool->OR
 |some b=>match op with| .eql=>.val (.v (.bool b)) | .neq=>.val (.v (.bool !b)) |_=>.bad
 |none=>.bad
def adB (op:BinOp)(l m:List SV):List Nat->OR
 | [] =>.bad|c::cs=>eqO op (eqL (c::cs) l m)
def aO (a:Tis)(t:TypeId)(k:TI->OR):OR:=match a t with|some i=>k i|none=>.bad
def eqT (a:BinOp)(l m:List SV)(b:TI):OR:=adB a l m b.eq
def D9 (op:BinOp)(k k':IntKind):Bool:=
 match op with
 | .shl=>true| .shr=>true|_=>Nat.beq (kN k) (kN k')
def adC (op:BinOp):SV->SV->OR
 | .v (.int k a),.v (.int k' b) =>bif D9 op k k' then v8 op k a b else .bad|_,_=>.bad
def aam (op:BinOp)(p:Prop):OR:=
 match op with
 | .eql=>.amb λb=>b=true->p
 | .neq=>.amb λb=>b=false->p
 |_=>.bad
def eqS (op:BinOp)(ti:TI):SV->SV->OR
 | .rs _ l,.v (.slice none 0 0) =>bif ti.isSlice then aam op (l=[])else .bad| .v (.string a),.v (.string b) =>bif Nat.beq ti.sc 2 then SP op a b else .bad| .v (.bool a),.v (.bool b) =>bif Nat.beq ti.sc 3 then Lr op a b else .bad| .agg l,.agg m=>eqT op l m ti|_,_=>.bad
def Ls (ts:Tis)(op:BinOp)(t:TypeId):SV->SV->OR
 | .v (.int k a),.v (.int k' b) =>adC op (.v (.int k a)) (.v (.int k' b))
 |a,b=>aO ts t λti=>eqS op ti a b
def unS:UnOp->SV->OR
 | .not,.v (.bool b) =>.val (.v (.bool !b))| .neg,.v (.int k n) =>.val (.v (.int k (k.wrap (0 - n))))|_,_=>.bad
def v9:Option SV->OR
 |some s=>.val s|none=>.bad
def FZ (agg:Bool)(size szt id:Nat)(i:Int)(off:Nat):Ob->OR
 | .row k l=>bif Nat.beq szt (aa k)then v9 (sQ agg size (cellsOf k (l.getD i.toNat (fg k))) off)else .bad| .ar2 _ _=>bif Nat.beq szt 1&&Nat.beq off 0&& !agg then .val (.gr id i)else .bad|_=>.bad
def CV (agg:Bool)(size szt:Nat)(i j:Int)(off:Nat):Ob->OR
 | .ar2 k l=>bif Nat.beq szt (aa k)then v9 (sQ agg size (cellsOf k ((l.getD i.toNat []).getD j.toNat (fg k))) off)else .bad|_=>.bad
def Bu (agg:Bool)(size off:Nat):Ob->OR
 | .cells l=>v9 (sQ agg size l off)|_=>.bad
def tq (ti:TI)(h:List Ob):SV->OR
 | .ptr id off=>Bu ti.agg ti.size off (ap h id)| .ep l off=>v9 (sQ ti.agg ti.size l off)| .rp s id i off=>FZ ti.agg ti.size s id i off (ap h id)| .gp s id i j off=>CV ti.agg ti.size s i j off (ap h id)|_=>.bad
def CW (n:Nat):SV->OR
 | .ptr id off=>.val (.ptr id (off+n))| .ep l off=>.val (.ep l (off+n))| .rp s id i off=>.val (.rp s id i (off+n))| .gp s id i j off=>.val (.gp s id i j (off+n))|_=>.bad
def Lt (esz id:Nat)(i:Int):Ob->OR
 | .row k l=>bif Nat.beq esz (aa k)then .chk (0<=i/\i< (l.length:Int)) (.rp esz id i 0)else .bad| .ar2 _ l=>bif Nat.beq esz 1 then .chk (0<=i/\i< (l.length:Int)) (.rp 1 id i 0)else .bad|_=>.bad
def QH (esz id:Nat)(i j:Int):Ob->OR
 | .ar2 k l=>bif Nat.beq esz (aa k)then .chk (0<=j/\j< ((l.getD i.toNat []).length:Int)) (.gp esz id i j 0)else .bad|_=>.bad
def QI (i:Int)(s:Nat)(l:List SV):OR:=bif Nat.ble 1 s&&Nat.ble (i.toNat*s+s) (sz l)then .chk (0<=i) (.ep l (i.toNat*s))else .bad
def jk (ti:TI)(esz:Nat)(h:List Ob):SV->SV->OR
 | .rs k l,.v (.int _ i) =>bif ti.isSlice&&Nat.beq esz (aa k)then .chk (0<=i/\i< (l.length:Int)) (.ep (cellsOf k (l.getD i.toNat (fg k))) 0)else .bad| .os id,.v (.int _ i) =>bif ti.isSlice then Lt esz id i (ap h id)else .bad| .gr id i,.v (.int _ j) =>bif ti.isSlice then QH esz id i j (ap h id)else .bad| .ls s l,.v (.int _ i) =>bif ti.isSlice&&Nat.beq esz s then QI i s l else .bad| .ptr id off,.v (.int _ i) =>bif ti.asF then .chk (0<=i/\i< (ti.len:Int)) (.ptr id (off+i.toNat*esz))else .bad| .ep l off,.v (.int _ i) =>bif ti.asF then .chk (0<=i/\i< (ti.len:Int)) (.ep l (off+i.toNat*esz))else .bad| .rp s id i off,.v (.int _ j) =>bif ti.asF then .chk (0<=j/\j< (ti.len:Int)) (.rp s id i (off+j.toNat*esz))else .bad|_,_=>.bad
def mY (place:Nat->Option (Nat×Nat))(cells:List SV):List (Nat×SV)->Option (List SV)
 | [] =>some cells
 |(i,v)::rest=>
  match place i,qQ v with
  |some (off,size),some vs=>bif Nat.beq (sz vs) size&&Nat.ble (off+size) (sz cells)then mY place (iG cells off vs) rest else none|_,_=>none
def tt (k:Tag)(size:Nat):Nat->List SV->Option (List k.T)
 |0,_=>some []
 |n+1,cells=>match pY k (cut size cells),tt k size n (NP size cells)with
  |some x,some xs=>some (x::xs)|_,_=>none
def EN (n:Nat)(z:List SV):List SV:=match n with|0=>[] |n+1=>z++EN n z
def ue (f:Option (Nat×Nat×Bool))(l:Option (List SV)):OR:=
 match f,l with
 |some (o,n,g),some l=>v9 (sQ g n l o)|_,_=>.bad
def QJ:SV->Bool
 | .v (.agg _) =>false| .v (.tuple _) =>false| .any=>false| .agg _=>false| .tup _=>false| .gd .. =>false| .nw .. =>false| .nm .. =>false| .ng .. =>false|_=>true
def wT:List SV->Bool
 | [] =>true|x::r=>QJ x&&wT r
def We (k:Tag)(id:Nat)(i:Int)(l:List k.T):Option k.T->OR
 |some x=>.eff True True [(id,.row k (l.set i.toNat x))] .any|none=>.bad
def SQ (k:Tag)(id:Nat)(i j:Int)(l:List (List k.T)):Option k.T->OR
 |some x=>.eff True True [(id,.ar2 k (l.set i.toNat ((l.getD i.toNat []).set j.toNat x)))] .any|none=>.bad
def QK (id off:Nat)(vs:List SV):Ob->OR
 | .cells l=>bif Nat.ble (off+sz vs) (sz l)&&wT vs then .eff True True [(id,.cells (iG l off vs))] .any else .bad|_=>.bad
def QL (s id:Nat)(i:Int)(off:Nat)(vs:List SV):Ob->OR
 | .row k l=>bif Nat.beq s (aa k)&&Nat.ble (off+sz vs) s then We k id i l (pY k (iG (cellsOf k (l.getD i.toNat (fg k))) off vs))else .bad|_=>.bad
def QM (s id:Nat)(i j:Int)(off:Nat)(vs:List SV):Ob->OR
 | .ar2 k l=>bif Nat.beq s (aa k)&&Nat.ble (off+sz vs) s then SQ k id i j l (pY k (iG (cellsOf k ((l.getD i.toNat []).getD j.toNat (fg k))) off vs))else .bad|_=>.bad
def sR (size:Nat)(h:List Ob):SV->Option (List SV)->OR
 | .ptr id off,some vs=>bif Nat.beq (sz vs) size then QK id off vs (ap h id)else .bad| .rp s id i off,some vs=>bif Nat.beq (sz vs) size then QL s id i off vs (ap h id)else .bad| .gp s id i j off,some vs=>bif Nat.beq (sz vs) size then QM s id i j off vs (ap h id)else .bad|_,_=>.bad
def Lu:Ob->Bool
 | .ar2 _ _=>true|_=>false
def Wf (k:Tag)(nx id rid:Nat)(i:Int)(l:List (List k.T)):Option (List k.T)->OR
 |some m=>.eff True True [(id,.dead),(rid,.dead),(nx,.ar2 k (l.set i.toNat m)),(id,.fwd (some nx))] .any|none=>.bad
def QN (k:Tag):Ob->Option (List k.T)
 | .row k' l=>if h:k'=k then some (h▸l)else none|_=>none
def F0 (nx:Nat)(h:List Ob)(id rid:Nat)(i:Int):Ob->OR
 | .ar2 k l=>Wf k nx id rid i l (QN k (ap h rid))|_=>.bad
def uf (size nx:Nat)(h:List Ob):SV->SV->OR
 | .rp s id i off,.os rid=>bif Lu (ap h id)then(bif Nat.beq size 1&&Nat.beq s 1&&Nat.beq off 0&& !(Nat.beq id rid)then F0 nx h id rid i (ap h id)else .bad)else sR size h (.rp s id i off) (qQ (.os rid))|a,x=>sR size h a (qQ x)
def Wg:SV->OR
 | .ptr id off=>.val (.ptr id off)| .ep l off=>.val (.ep l off)| .rp a b c d=>.val (.rp a b c d)| .gp a b c d e=>.val (.gp a b c d e)
 | .fn f first caps=>.val (.fn f first caps)
 |_=>.bad
def NS:Option IntKind->SV->OR
 |some k,.v (.int _ n) =>.val (.v (.int k (k.wrap n)))|_,_=>.bad
def Lv (nx:Nat):Option (List SV)->OR
 |some l=>.eff True True [(nx,.cells l)] (.ptr nx 0)|none=>.bad
def QO:Option (List SV)->OR
 |some l=>.val (.agg l)|none=>.bad
def acv (k:Tag):Option (List k.T)->OR
 |some xs=>.asD (.rs k xs)|none=>.bad
def lsS (n s:Nat)(l:List SV):OR:=bif Nat.beq (sz l) (n*s)&&wT l then .asD (.ls s l)else .bad
def bsT (k:Tag)(ti te:TI)(n:Nat):Option (List SV)->OR
 |some l=>bif Nat.beq te.size (aa k)&&ti.isSlice&&Nat.ble (n*te.size) 16777216&&Nat.beq (sz te.zero) te.size then acv k (tt k te.size n l)else .bad|none=>.bad
def bsU (ti te:TI)(n:Nat):Option (List SV)->OR
 |some l=>bif ti.isSlice&&Nat.ble 1 te.size&&Nat.ble (n*te.size) 16777216&&Nat.beq (sz te.zero) te.size then lsS n te.size l else .bad|none=>.bad
def noG:Option (Nat×Bool)->Bool
 |none=>true|some _=>false
def aiz:Op->Bool
 | .call ⟨.value _,_,_⟩ =>true|_=>false
def aiA:Op->Bool
 | .call ⟨.builtin .append,_,_⟩ =>true|_=>false
def Wh:List Oper->Bool
 | [] =>false
 |o::r=>aiz o.op||Wh r
def SR:List Oper->Bool
 | [] =>false
 |o::r=>aiA o.op||SR r
def aiB:Op->Bool
 | .call ⟨.builtin .clear,_,_⟩ =>true|_=>false
def Wi:List Oper->Bool
 | [] =>false
 |o::r=>aiB o.op||Wi r
def adD:Op->Bool
 | .slice .. =>true|_=>false
def QP:List Oper->Bool
 | [] =>false| [o] =>adD o.op|_::r=>QP r
def SS:List Oper->List Nat
 | [] =>[]|o::r=>bif adD o.op then o.dst.toList++SS r else SS r
def NT (ds:List Nat):List Operand->Bool
 | [] =>false
 | .tmp d::r=>ds.any (Nat.beq d) ||NT ds r
 |_::r=>NT ds r
def Wj:Op->List Operand
 | .call ⟨.value _,args,_⟩ =>args.toList|_=>[]
def adE (ds:List Nat):List Oper->Bool
 | [] =>false
 |o::r=>NT ds (Wj o.op) ||adE ds r
def NU (a:List Oper):Bool:=SR a||Wi a||QP a||adE (SS a) a
def aiC (a:List Oper)(g:Option (Nat×Bool)):Option (Nat×Bool):=bif SR a&&Wh a then some (0,true)else g
def adF:List (Nat×Operand)->List Operand
 | [] =>[]|(_,x)::r=>x::adF r
def Wk:Op->List Operand
 | .build _ parts=>adF parts.toList|_=>[]
def adG (ds:List Nat):List Oper->Bool
 | [] =>false
 |o::r=>NT ds (Wk o.op) ||adG ds r
def aiD (t:TypeId):Op->Bool
 | .buildSlice t' _ _=>Nat.beq t t'|_=>false
def SU (t:TypeId):List Oper->List Nat
 | [] =>[]|o::r=>bif aiD t o.op then o.dst.toList++SU t r else SU t r
def acw:Bool:=false
def QQ (t:TypeId)(a:List Oper)(g:Option (Nat×Bool)):Option (Nat×Bool):=bif acw&&adG (SU t a) a then some (0,true)else aiC a g
def aiE:SV->Bool
 | .os _=>true|_=>false
def osL:List SV->Bool
 | [] =>false
 |s::r=>aiE s||osL r
def osV:SV->Bool
 | .os _=>true| .agg l=>osL l|_=>false
def aan:List (Nat×SV)->Bool
 | [] =>false
 |(_,s)::r=>osV s||aan r
def bsG (ti te:TI)(n:Nat)(l:Option (List SV))(os:Bool):Option Tag->OR
 |some k=>bif os then bsU ti te n l else bsT k ti te n l|none=>bsU ti te n l
def acx:List Kd->Bool
 | [.f] =>true|_=>false
def adH:Option Tag->Option Tag
 |some k=>bif acx (ez k)then none else some k|none=>none
def bsS (ti te:TI)(n:Nat)(parts:List (Nat×SV)):OR:=
 bif Nat.beq n 0 then(bif ti.isSlice&&parts.isEmpty then .asD .e0 else .bad)
 else bsG ti te n (mY (λi=>some (i*te.size,te.size)) (EN n te.zero) parts) (aan parts) (adH te.tag)
def one {α:Type}:List α->Bool
 | [_] =>true|_=>false
def NV (g:Option (Nat×Bool))(nx:Nat)(te:TI):OR->OR
 | .asD (.rs k l) =>bif(te.agg||one l)&&noG g then .eff True True [(nx,.row k l)] (.os nx)else .asD (.rs k l)|r=>r
def Wl (i:Nat):SV->OR
 | .tup l=>v9 (nth l i)|_=>.bad
def Bv (args:List SV):SV->OR
 | .fn g first caps=>.call g (first++args++caps)
 | .os id=>.yld id args|_=>.bad
def aI:Nat:=140737488355328
def aao:Ob->OR
 | .row _ l=>.asm (l.length<=aI) (.i l.length)| .ar2 _ l=>.asm (l.length<=aI) (.i l.length)|_=>.bad
def adI (i:Int):Ob->OR
 | .ar2 _ l=>.asm ((l.getD i.toNat []).length<=aI) (.i (l.getD i.toNat []).length)|_=>.bad
def adJ (m:Option Tag):Ob->OR
 | .mp _ _ l p=>bif m.isSome&&noE p then .val (.i l.length)else .bad|_=>.bad
def vM (ti:TI)(h:List Ob):List SV->OR
 | [.rs _ l] =>bif ti.isSlice then .asm (l.length<=aI) (.i l.length)else .bad| [.v (.slice none 0 0)] =>bif ti.isSlice then .val (.i 0)else .bad| [.e0] =>bif ti.isSlice then .val (.i 0)else .bad| [.rc _ l] =>bif ti.isSlice then .asm (l.length<=aI) (.i l.length)else .bad| [.os id] =>bif ti.isSlice then aao (ap h id)else adJ ti.mkt (ap h id)| [.gr id i] =>bif ti.isSlice then adI i (ap h id)else .bad| [.ls s l] =>bif ti.isSlice&&Nat.ble 1 s then .val (.i ((sz l / s:Nat):Int))else .bad|_=>.bad
def Lw:List SV->OR
 | [.v (.int k a),.v (.int _ b)] =>.val (.v (.int k (if b<a then b else a)))|_=>.bad
def Lx:List SV->OR
 | [.v (.int k a),.v (.int _ b)] =>.val (.v (.int k (if a<b then b else a)))|_=>.bad
def Wm:SV->OR
 | .v (.iface t y) =>.pan (.iface t y)|_=>.bad
def F4 (t:TypeId):SV->OR
 | .v (.int k n) =>.val (.v (.iface t (.int k n)))|_=>.bad
def NW (fn:Fn)(first caps:List SV):OR:=
 match fn with
 | .func f=>.val (.fn f first caps)
 |_=>.bad
def dT:Nat:=140737488355328
def SW (a:Tag):Option Tag->Bool
 |some b=>Nat.beq (Bk a) (Bk b)|none=>false
def Bw (k a:Tag)(l:List a.T):Option (List k.T):=if h:a=k then some (h▸l)else none
def aap (k:Tag):Ob->Option (List k.T)
 | .row k' l=>Bw k k' l|_=>none
def adK (k:Tag)(s:Nat)(lo hi:Int):Ob->Option (List k.T)
 | .row k' l=>bif Nat.beq s (aa k')then Bw k k' ((l.take hi.toNat).drop lo.toNat)else none|_=>none
def v_ (k:Tag)(h:List Ob):SV->Option (List k.T)
 | .rs k' l=>Bw k k' l| .v (.slice none 0 0) =>some []| .e0=>some []| .os id=>aap k (ap h id)| .vw s id lo hi=>adK k s lo hi (ap h id)|_=>none
def aaq (k:Tag)(nx bytes:Nat)(kill:List Up)(l:List k.T):Option (List k.T)->OR
 |some m=>.eff ((l++m).length*bytes<=dT) ((l++m).length<=aI) (kill++[(nx,.row k (l++m))]) (.os nx)|none=>.bad
def x8 (te:TI)(nx:Nat)(kill:List Up)(h:List Ob)(src:SV):Ob->OR
 | .row k l=>bif Nat.beq te.size (aa k)&&Nat.beq (sz te.zero) te.size&&Nat.ble 1 te.bytes then aaq k nx te.bytes kill l (v_ k h src)else .bad|_=>.bad
def NX (k:Tag)(nx bytes id2:Nat)(kill:List Up)(l:List (List k.T)):Option (List k.T)->OR
 |some m=>.eff ((l++[m]).length*bytes<=dT) ((l++[m]).length<=aI) (kill++[(id2,.dead),(nx,.ar2 k (l++[m]))]) (.os nx)|none=>.bad
def F6 (nx bytes:Nat)(h:List Ob)(id2:Nat)(kill:List Up):Ob->OR
 | .ar2 k l=>NX k nx bytes id2 kill l (aap k (ap h id2))|_=>.bad
def adL (nx bytes id2:Nat):Ob->OR
 | .row k m=>NX k nx bytes id2 [] [] (some m)|_=>.bad
def wU (te:TI)(nx:Nat)(h:List Ob)(src:SV):Option Tag->OR
 |some k=>x8 te nx [] h src (.row k [])|none=>.bad
def aar (te:TI)(id:Nat):Ob->OR
 | .row k l=>bif Nat.beq te.size (aa k)&&Nat.beq (sz te.zero) te.size&&Nat.ble 1 te.bytes then .eff ((l++l).length*te.bytes<=dT) ((l++l).length<=aI) [(id,.fz k l)] (.rs k (l++l))else .bad|_=>.bad
def Wn {α:Type}:List α->Bool
 | [] =>false|_=>true
def acy (k:Tag)(bytes:Nat)(l:List k.T):Option (List k.T)->OR
 |some m=>bif Wn m then .eff ((l++m).length*bytes<=dT) ((l++m).length<=aI) [] (.rs k (l++m))else .bad|none=>.bad
def aas (a:TI)(h:List Ob)(b:SV)(k:Tag)(l:List k.T):OR:=bif Nat.beq a.size (aa k)&&Nat.beq (sz a.zero) a.size&&Nat.ble 1 a.bytes then acy k a.bytes l (v_ k h b)else .bad
def nU (te:TI)(nx:Nat)(h:List Ob):List SV->OR
 | [.os id,.ls 1 [.os id2]] =>bif Nat.beq te.size 1&&Nat.beq (sz te.zero) 1&&Nat.ble 1 te.bytes&& !(Nat.beq id id2)then F6 nx te.bytes h id2 [(id,.dead)] (ap h id)else .bad| [.v (.slice none 0 0),.ls 1 [.os id2]] =>bif Nat.beq te.size 1&&Nat.beq (sz te.zero) 1&&Nat.ble 1 te.bytes then adL nx te.bytes id2 (ap h id2)else .bad| [.os id,.os id2] =>bif Nat.beq id id2 then aar te id (ap h id)else x8 te nx [(id,.dead)] h (.os id2) (ap h id)| [.os id,src] =>x8 te nx [(id,.dead)] h src (ap h id)| [.v (.slice none 0 0),src] =>wU te nx h src te.tag| [.e0,src] =>wU te nx h src te.tag| [.rc k l,src] =>aas te h src k l|_=>.bad
def yr (k:Tag)(l:List k.T)(a b:Int):List k.T:=if b.toNat<=a.toNat then l else l.take a.toNat++List.replicate (b.toNat - a.toNat) (fg k)++l.drop b.toNat
def adM (te:TI)(s id:Nat)(lo hi:Int):Ob->OR
 | .row k l=>bif Nat.beq s (aa k)&&SW k te.tag then .eff True True [(id,.row k (yr k l lo hi))] .any else .bad|_=>.bad
def AG (ti te:TI)(h:List Ob):List SV->OR
 | [.vw s id lo hi] =>bif ti.isSlice then adM te s id lo hi (ap h id)else .bad|_=>.bad
def mkT (nx:Nat)(n c:Int)(te:TI):Option Tag->OR
 |some k=>.eff (n=c/\0<=n/\n*te.bytes<=dT) (n<=aI) [(nx,.row k (List.replicate n.toNat (fg k)))] (.os nx)|none=>.bad
def mkS (nx:Nat)(te:TI):SV->SV->OR
 | .v (.int .i64 n),.v (.int .i64 c) =>mkT nx n c te te.tag|_,_=>.bad
def aat:List SV->Bool
 | [.v (.slice none 0 0)] =>true|_=>false
def aau (nx:Nat)(n c:Int)(te:TI):Option Tag->OR
 |some k=>bif Nat.beq te.size 1&&aat te.zero&&Nat.ble 1 te.bytes then .eff (n=c/\0<=n/\n*te.bytes<=dT) (n<=aI) [(nx,.ar2 k (List.replicate n.toNat []))] (.os nx)else .bad|none=>.bad
def Ly (nx:Nat)(te tr:TI):SV->SV->OR
 | .v (.int .i64 n),.v (.int .i64 c) =>aau nx n c te tr.tag|_,_=>.bad
def bnd (d:Int):Option SV->Option Int
 |none=>some d|some (.v (.int _ n)) =>some n|_=>none
def aav (k:Tag)(l:List k.T):Option Int->Option Int->OR
 |some lo,some hi=>.chk (0<=lo/\lo<=hi/\hi<=(l.length:Int)) (.rs k ((l.take hi.toNat).drop lo.toNat))|_,_=>.bad
def aaw (id nx:Nat)(k:Tag)(l:List k.T):Option Int->Option Int->OR
 |some lo,some hi=>.eff (0<=lo/\lo<=hi/\hi<=(l.length:Int)) True [(id,.dead),(nx,.row k ((l.take hi.toNat).drop lo.toNat))] (.os nx)|_,_=>.bad
def aax (esz id nx:Nat)(lo hi:Option SV):Ob->OR
 | .row k l=>bif Nat.beq esz (aa k)then aaw id nx k l (bnd 0 lo) (bnd l.length hi)else .bad|_=>.bad
def Wo (esz id n:Nat):Option Int->OR
 |some a=>.chk (0<=a/\a<=(n:Int)) (.vw esz id a n)|none=>.bad
def Wp (esz id:Nat)(lo:Option SV):Ob->OR
 | .row k l=>bif Nat.beq esz (aa k)then Wo esz id l.length (bnd 0 lo)else .bad|_=>.bad
def pc (ti:TI)(esz nx:Nat)(h:List Ob)(lo hi:Option SV)(vq:Bool):SV->OR
 | .rs k l=>bif ti.isSlice&&Nat.beq esz (aa k)then aav k l (bnd 0 lo) (bnd l.length hi)else .bad| .os id=>bif ti.isSlice then(bif vq then Wp esz id lo (ap h id)else aax esz id nx lo hi (ap h id))else .bad|_=>.bad
def acz (ti:TI):Option SV->Option SV->SV->SV->OR
 |none,some (.v (.int .i64 0)),.v (.int .i64 0),.v (.slice none 0 0) =>bif ti.isSlice then .val (.v (.slice none 0 0))else .bad|_,_,_,_=>.bad
def acA (ti:TI)(k:Tag)(l:List k.T):Option SV->Option SV->SV->OR
 |none,some (.v (.int .i64 a)),.v (.int .i64 b) =>bif ti.isSlice then .chk (a=(l.length:Int)/\b=(l.length:Int)) (.rc k l)else .bad|_,_,_=>.bad
def F7 (ti:TI)(lo hi:Option SV)(m:SV):SV->OR
 | .rs k l=>acA ti k l lo hi m|x=>acz ti lo hi m x
def J2 (kk vk:Tag)(l:List (kk.T×vk.T))(ok:Bool):Option kk.T->OR
 |some x=>bif ok then .val (.tup [svT vk (aC kk vk l x),.b (yq kk vk l x)])else .val (svT vk (aC kk vk l x))|none=>.bad
def mP (a:Tag):Option Tag->Bool
 |some b=>Nat.beq (Bk a) (Bk b)|none=>false
def J3 {α:Type}:Option α->Bool
 |none=>true|some _=>false
def SX (ti:TI)(key:SV)(ok:Bool):Ob->OR
 | .mp kk vk l asE=>bif mP kk ti.mkt&&mP vk ti.mvt&&(!ok||noE asE)then J2 kk vk l ok (unT kk key)else .bad|_=>.bad
def Wq (key:SV)(ok:Bool):Option Tag->Option Tag->OR
 |some kk,some vk=>J2 kk vk [] ok (unT kk key)|_,_=>.bad
def ve (ti:TI)(h:List Ob)(ok:Bool)(key:SV):SV->OR
 | .os id=>SX ti key ok (ap h id)| .rm kk vk l=>bif mP kk ti.mkt&&mP vk ti.mvt then J2 kk vk l ok (unT kk key)else .bad| .v (.map none) =>Wq key ok ti.mkt ti.mvt|_=>.bad
def adN (id:Nat)(kk vk:Tag)(l:List (kk.T×vk.T)):Option kk.T->Option vk.T->OR
 |some x,some y=>.eff True True [(id,.mp kk vk (dF kk vk l x y) none)] .any|_,_=>.bad
def adO (ti:TI)(id:Nat)(key v:SV):Ob->OR
 | .mp kk vk l p=>bif mP kk ti.mkt&&mP vk ti.mvt&&noE p then adN id kk vk l (unT kk key) (unT vk v)else .bad|_=>.bad
def EO (ti:TI)(h:List Ob)(key v:SV):SV->OR
 | .os id=>adO ti id key v (ap h id)|_=>.bad
def Ul (id nx:Nat)(kk vk:Tag)(l:List (kk.T×vk.T)):Option kk.T->OR
 |some x=>.eff True True [(nx,.fwd none),(id,.mp kk vk l (some (nx,some x)))] (.tup [svT vk (aC kk vk l x),.os nx])|none=>.bad
def Um (ti:TI)(id nx:Nat)(key:SV):Ob->OR
 | .mp kk vk l p=>bif mP kk ti.mkt&&mP vk ti.mvt&&noE p then Ul id nx kk vk l (unT kk key)else .bad|_=>.bad
def Bx (ti:TI)(nx:Nat)(h:List Ob)(key:SV):SV->OR
 | .os id=>Um ti id nx key (ap h id)|_=>.bad
def adP (id:Nat)(kk vk:Tag)(l:List (kk.T×vk.T))(x:kk.T):Option vk.T->OR
 |some y=>.eff True True [(id,.mp kk vk (dF kk vk l x y) none)] .any|none=>.bad
def adQ (ti:TI)(id n:Nat)(v:SV):Ob->OR
 | .mp kk vk l (some (n',some x)) =>bif mP kk ti.mkt&&mP vk ti.mvt&&Nat.beq n' n then adP id kk vk l x (unT vk v)else .bad|_=>.bad
def Lz (ti:TI)(h:List Ob)(v:SV):SV->SV->OR
 | .os id,.os n=>adQ ti id n v (ap h id)|_,_=>.bad
def adR (id:Nat)(kk vk:Tag)(l:List (kk.T×vk.T)):Option kk.T->OR
 |some x=>.eff True True [(id,.mp kk vk (ud kk vk l x) none)] .any|none=>.bad
def adS (ti:TI)(id:Nat)(key:SV):Ob->OR
 | .mp kk vk l p=>bif mP kk ti.mkt&&mP vk ti.mvt&&noE p then adR id kk vk l (unT kk key)else .bad|_=>.bad
def AH (ti:TI)(h:List Ob):List SV->OR
 | [.os id,key] =>adS ti id key (ap h id)|_=>.bad
def mmR (nx:Nat):Option Tag->Option Tag->OR
 |some kk,some vk=>.eff True True [(nx,.mp kk vk [] none)] (.os nx)|_,_=>.bad
def zsO (z:List SV):OR:=.val (.tup [.agg z,.b false])
def taS (t:TypeId)(ok:Bool)(ti:TI):SV->OR
 | .v (.iface t' y) =>bif ti.iface then .bad else bif Nat.beq t' t then(bif ok then .val (.tup [.v y,.b true])else .val (.v y))else .bad|_=>.bad
def aay (ti:TI)(nx id:Nat):Ob->OR
 | .mp kk vk l p=>bif mP kk ti.mkt&&mP vk ti.mvt&&noE p then .eff True True [(nx,.mi (some id) l.length (List.range l.length) none),(id,.mp kk vk l (some (nx,none)))] (.ptr nx 0)else .bad|_=>.bad
def LA (ti:TI)(nx:Nat)(h:List Ob):SV->OR
 | .os id=>aay ti nx id (ap h id)|_=>.bad
def Wr:SV->OR
 | .ptr id 0=>.nxt id|_=>.bad
def Ws (id n j:Nat):Ob->OR
 | .mp kk vk l (some (it,none)) =>bif Nat.beq it id then .chk (n=l.length/\j<n) (.tup [svT kk (l.getD j (fg kk,fg vk)).1,svT vk (l.getD j (fg kk,fg vk)).2])else .bad|_=>.bad
def SY (h:List Ob)(id:Nat):Ob->OR
 | .mi (some mid) n _ (some j) =>Ws id n j (ap h mid)|_=>.bad
def D_ (h:List Ob):SV->OR
 | .ptr id 0=>SY h id (ap h id)|_=>.bad
def opS (cx:Cx):Op->OR
 | .move x=>.val (val cx x)| .assign x=>.val (val cx x)| .pick c a b=>FY a b (val cx c) (lV cx.ops cx.g c true (raw cx.st.t a)) (lV cx.ops cx.g c false (raw cx.st.t b))
 | .alloc t=>aO cx.ts t λti=>Lv cx.nx (some ti.zero)
 | .box _ x=>Lv cx.nx (qQ (val cx x))
 | .build t parts=>aO cx.ts t λti=>
  bif ti.asF then aO cx.ts ti.elem λte=>QO (mY (λi=>some (i*te.size,te.size)) ti.zero (kv cx parts.toList))
  else bif ti.agg then QO (mY (λi=>(nth ti.fields i).map λf=>(f.1,f.2.1)) ti.zero (kv cx parts.toList))
  else .bad
 | .buildSlice t n parts=>aO cx.ts t λti=>aO cx.ts ti.elem λte=>NV (QQ t cx.ops cx.g) cx.nx te (bsS ti te n (kv cx parts.toList))
 | .load t a=>aO cx.ts t λti=>tq ti cx.st.h (val cx a)
 | .store t a x=>aO cx.ts t λti=>uf ti.size cx.nx cx.st.h (val cx a) (val cx x)
 | .nilCheck x=>Wg (val cx x)| .binOp op t x y _=>Ls cx.ts op t (val cx x) (val cx y)| .unOp op _ x=>unS op (val cx x)
 | .convert src dst x=>aO cx.ts src λ_=>aO cx.ts dst λti=>NS ti.int (val cx x)
 | .makeFunc fn first captured=>NW fn (dO cx first.toList) (dO cx captured.toList)
 | .fieldAddr t x f=>aO cx.ts t λti=>match nth ti.fields f with|some (o,n,_) =>bif Nat.ble 1 n then CW o (val cx x)else .bad|none=>.bad
 | .field t x f=>aO cx.ts t λti=>ue (nth ti.fields f) (I4 (val cx x))
 | .indexAddr t x i=>aO cx.ts t λti=>aO cx.ts ti.elem λte=>jk ti te.size cx.st.h (val cx x) (val cx i)
 | .extract x i=>Wl i (val cx x)| .panic x=>Wm (val cx x)
 | .makeInterface t x=>aO cx.ts t λti=>bif ti.iface then .bad else F4 t (val cx x)
 | .makeSlice t n c=>aO cx.ts t λti=>aO cx.ts ti.elem λte=>bif ti.isSlice then(bif te.isSlice then aO cx.ts te.elem λtr=>Ly cx.nx te tr (val cx n) (val cx c)else mkS cx.nx te (val cx n) (val cx c))else .bad
 | .slice t x lo hi none=>aO cx.ts t λti=>aO cx.ts ti.elem λte=>pc ti te.size cx.nx cx.st.h (pZ cx lo) (pZ cx hi) (J3 hi&&NU cx.ops) (val cx x)
 | .slice t x lo hi (some m) =>aO cx.ts t λti=>aO cx.ts ti.elem λ_=>F7 ti (pZ cx lo) (pZ cx hi) (val cx m) (val cx x)
 | .makeMap t none=>aO cx.ts t λti=>mmR cx.nx ti.mkt ti.mvt
 | .lookup t m k ok=>aO cx.ts t λti=>ve ti cx.st.h ok (val cx k) (val cx m)
 | .mapUpdate t m k v=>aO cx.ts t λti=>EO ti cx.st.h (val cx k) (val cx v) (val cx m)
 | .insert t m k v=>aO cx.ts t λti=>EO ti cx.st.h (val cx k) (val cx v) (val cx m)
 | .mapEntry t m k=>aO cx.ts t λti=>Bx ti cx.nx cx.st.h (val cx k) (val cx m)
 | .entryStore t m s v=>aO cx.ts t λti=>Lz ti cx.st.h (val cx v) (val cx m) (val cx s)
 | .range t m=>aO cx.ts t λti=>LA ti cx.nx cx.st.h (val cx m)
 | .next it false=>Wr (val cx it)| .entry it=>D_ cx.st.h (val cx it)
 | .typeAssert x _ t ok=>aO cx.ts t λti=>taS t ok ti (val cx x)
 | .call ⟨.value f,args,_⟩ =>Bv (dO cx args.toList) (val cx f)
 | .call ⟨.builtin .len,args,tys⟩ =>match tys.toList with| [t] =>aO cx.ts t λti=>vM ti cx.st.h (dO cx args.toList) |_=>.bad
 | .call ⟨.builtin .delete,args,tys⟩ =>match tys.toList with|t::_=>aO cx.ts t λti=>AH ti cx.st.h (dO cx args.toList) |_=>.bad
 | .call ⟨.builtin .clear,args,tys⟩ =>match tys.toList with| [t] =>aO cx.ts t λti=>aO cx.ts ti.elem λte=>AG ti te cx.st.h (dO cx args.toList) |_=>.bad
 | .call ⟨.builtin .min,args,_⟩ =>Lw (dO cx args.toList)| .call ⟨.builtin .max,args,_⟩ =>Lx (dO cx args.toList)
 | .call ⟨.builtin .append,args,tys⟩ =>match tys.toList with| [t,t2] =>aO cx.ts t λti=>aO cx.ts t2 λti2=>aO cx.ts ti.elem λte=>bif ti.isSlice&&ti2.isSlice then nU te cx.nx cx.st.h (dO cx args.toList)else .bad|_=>.bad
 |_=>.bad
structure Fp where
 all:List Nat
 rd:List Nat
 wk:List Nat
 tc:List Nat
 wt:List Nat
def gI:SV->List Nat
 | .ptr id _=>[id]| .os id=>[id]| .rp _ id _ _=>[id]| .gr id _=>[id]| .gp _ id _ _ _=>[id]| .vw _ id _ _=>[id]|_=>[]
def LB:SV->List Nat
 | .ls _ [.os id] =>[id]|s=>gI s
def qR:List SV->List Nat
 | [] =>[]|s::r=>LB s++qR r
def Wt:Ob->List Nat
 | .mi (some mid) _ _ _=>[mid]|_=>[]
def Wu (h:List Ob):SV->List Nat
 | .ptr id _=>Wt (ap h id)|_=>[]
def fpO (cx:Cx):Op->List Nat×List Nat
 | .range _ m=>(gI (val cx m),[])| .entry it=>(gI (val cx it)++Wu cx.st.h (val cx it),[])| .load _ a=>(gI (val cx a),[])| .store _ a x=>(gI (val cx a)++gI (val cx x),[])| .indexAddr _ x _=>(gI (val cx x),[])| .slice _ x _ _ _=>(gI (val cx x),[])| .lookup _ m _ ok=>bif ok then(gI (val cx m),[])else([],gI (val cx m))| .mapUpdate _ m _ _=>(gI (val cx m),[])| .insert _ m _ _=>(gI (val cx m),[])| .mapEntry _ m _=>(gI (val cx m),[])| .entryStore _ m _ _=>(gI (val cx m),[])| .call ⟨.builtin .len,args,_⟩ =>(qR (dO cx args.toList),[])| .call ⟨.builtin .append,args,_⟩ =>(qR (dO cx args.toList),[])| .call ⟨.builtin .delete,args,_⟩ =>(qR (dO cx args.toList),[])| .call ⟨.builtin .clear,args,_⟩ =>(qR (dO cx args.toList),[])|_=>([],[])
def fS:List Up->List Nat
 | [] =>[]|(id,_)::r=>id::fS r
def By:Op->Bool
 | .mapEntry .. =>true|_=>false
def fpU (o:Op)(x:List Nat×List Nat)(all:List Nat)(ups:List Up):Fp:=
 bif By o then ⟨all,x.1,x.2,[],fS ups⟩else ⟨all,x.1,x.2,fS ups,[]⟩
def NY (as:List Nat):List Edge->Nat
 | [] =>0|e::r=>bif Region.binds .any e then Nat.lor (Nat.lor ((nth as e.on).getD 0) (Nat.shiftLeft 1 e.on)) (NY as r)else NY as r
def CX:List Oper->List Nat->List Nat
 | [],as=>as|o::r,as=>CX r (as++[NY as o.after.toList])
def ug (a:List Nat)(i j:Nat):Bool:=Nat.testBit ((nth a i).getD 0) j
def EP (n:Nat):List Nat->Bool
 | [] =>false|m::r=>bif Nat.beq m n then true else EP n r
def vg:List Nat->List Nat->Bool
 | [],_=>false|a::r,l=>bif EP a l then true else vg r l
def vh (i e:Fp):Bool:=
 vg i.all e.tc||vg i.all e.wt||vg i.rd e.tc||vg i.rd e.wt||vg i.wk e.tc||vg i.tc e.tc||vg i.tc e.wt||vg i.wt e.tc||vg i.wt e.wt
def NZ (as:List Nat)(i:Nat)(x:Fp):Nat->List Fp->Bool
 |_,[] =>true|j,y::r=>(Nat.beq i j|| !(vh x y) ||(Nat.blt j i&&ug as i j) ||(Nat.blt i j&&ug as j i))&&NZ as i x (j+1) r
def SZ (as:List Nat)(b:Nat)(all:List Fp):Nat->List Fp->Bool
 |_,[] =>true|i,x::r=>NZ as i x b all&&SZ as b all (i+1) r
def aiF (c:List Oper)(b:Nat)(a:List Fp):Bool:=SZ (CX c []) b a b a
def J4:List Fp->Bool
 | [] =>true|x::r=>x.tc.isEmpty&&x.wt.isEmpty&&J4 r
def uh (c:List Oper)(b:Nat)(a:List Fp):Prop:=bif J4 a then True else aiF c b a=true
def LD (as:List Nat)(c:Nat):Nat->List Oper->Bool
 |_,[] =>true|i,_::r=>(Nat.beq i c||(Nat.blt i c&&ug as c i) ||(Nat.blt c i&&ug as i c))&&LD as c (i+1) r
def F8 (a:List Oper)(c:Nat):Bool:=LD (CX a []) c 0 a
def dY (ops:List Oper)(t:List (Nat×SV)):Nat->Nat×Bool->Prop
 |0,_=>True
 |n+1,(j,want) =>match (nth ops j).bind (·.dst)with
  |some d=>match lk d t with
   | .v (.bool x) =>x=want| .gd j' b (.v (.bool x)) =>dY ops t n (j',b)/\x=want|_=>True
  |none=>True
def gK (ops:List Oper)(t:List (Nat×SV)):Nat->Nat×Bool->Prop
 |0,_=>True
 |n+1,(j,want) =>match (nth ops j).bind (·.dst)with
  |some d=>match lk d t with
   | .v (.bool x) =>¬x=want| .gd j' b (.v (.bool x)) =>gK ops t n (j',b)\/¬x=want|_=>True
  |none=>True
def yu (ops:List Oper)(t:List (Nat×SV)):Nat->Nat×Bool->Prop
 |0,_=>False
 |n+1,(j,want) =>match (nth ops j).bind (·.dst)with
  |some d=>match lk d t with
   | .v (.bool x) =>¬x=want| .gd j' b (.v (.bool x)) =>yu ops t n (j',b)\/¬x=want|_=>False
  |none=>False
def aaz (szt off:Nat)(i:Int):Ob->SV
 | .row k l=>bif Nat.beq szt (aa k)then .ep (cellsOf k (l.getD i.toNat (fg k))) off else .any|_=>.any
def S0 (szt off:Nat)(i j:Int):Ob->SV
 | .ar2 k l=>bif Nat.beq szt (aa k)then .ep (cellsOf k ((l.getD i.toNat []).getD j.toNat (fg k))) off else .any|_=>.any
def Wv (i:Int):Ob->SV
 | .ar2 k l=>.rs k (l.getD i.toNat [])|_=>.any
def frz:Ob->SV
 | .row k l=>.rs k l| .mp kk vk l p=>bif noE p then .rm kk vk l else .any| .ar2 k l=>NJ k l| .fz k l=>.rs k l|_=>.any
def Uo (f:SV->SV)(off:Nat):Ob->SV
 | .cells l=>.ep (l.map f) off|_=>.any
def aaA (s:Nat)(lo hi:Int):Ob->SV
 | .row k l=>bif Nat.beq s (aa k)then .rs k ((l.take hi.toNat).drop lo.toNat)else .any|_=>.any
def jq (h:List Ob):Nat->SV->SV
 |_,.v x=>.v x|_,.rs k l=>.rs k l|_,.rc k l=>.rs k l|_,.e0=>.e0|_,.rm k k2 l=>.rm k k2 l|_,.os id=>frz (ap h id)|_,.vw s id lo hi=>aaA s lo hi (ap h id)|_,.rp s id i off=>bif Nat.beq s 0 then .any else aaz s off i (ap h id)|_,.gp s id i j off=>bif Nat.beq s 0 then .any else S0 s off i j (ap h id)|_,.gr id i=>Wv i (ap h id)|n+1,.ptr id off=>Uo (jq h n) off (ap h id)|n+1,.ep l off=>.ep (l.map (jq h n)) off|n+1,.ls s l=>.ls s (l.map (jq h n))|n+1,.agg l=>.agg (l.map (jq h n))|n+1,.tup l=>.tup (l.map (jq h n))
 |n+1,.fn f first caps=>.fn f (first.map (jq h n)) (caps.map (jq h n))
 |_,_=>.any
def Uq (f:SV->List Nat):Ob->List Nat
 | .cells l=>l.flatMap f|_=>[]
def mw (h:List Ob):Nat->SV->List Nat
 |_,.os id=>[id]|_,.rp _ id _ _=>[id]|_,.gp _ id _ _ _=>[id]|_,.gr id _=>[id]|_,.vw _ id _ _=>[id]|n+1,.ptr id _=>id::Uq (mw h n) (ap h id)|n+1,.ep l _=>l.flatMap (mw h n)|n+1,.ls _ l=>l.flatMap (mw h n)|n+1,.agg l=>l.flatMap (mw h n)|n+1,.tup l=>l.flatMap (mw h n)
 |n+1,.fn _ first caps=>first.flatMap (mw h n)++caps.flatMap (mw h n)
 |_,_=>[]
def asC:List (Nat×SV)->List (Nat×SV)
 | [] =>[]|(d,.gd ..)::r=>(d,.any)::asC r|x::r=>x::asC r
def dM:Nat->SV->Bool
 |_,.v _=>true|_,.rs _ _=>true|_,.rm _ _ _=>true|_,.e0=>true|_,.rc _ _=>true|_,.any=>true|n+1,.ep l _=>l.all (dM n)|n+1,.ls _ l=>l.all (dM n)|n+1,.agg l=>l.all (dM n)|n+1,.tup l=>l.all (dM n)|n+1,.fn _ l m=>l.all (dM n)&&m.all (dM n)|_,_=>false
def kf:Nat->SV->Bool
 |_,.v _=>true|_,.nw k _=>Nat.beq (arM k) 0|_,.nm k k2 _=>Nat.beq (arM k) 0&&Nat.beq (arM k2) 0|_,.ng k _=>Nat.beq (arM k) 0|n+1,.agg l=>l.all (kf n)|n+1,.tup l=>l.all (kf n)|_,_=>false
def aZ:Nat->SV->List Ob
 |_,.nw k l=>[.row k l]|_,.nm k k2 l=>[.mp k k2 l none]|_,.ng k l=>[.ar2 k l]|n+1,.agg l=>l.flatMap (aZ n)|n+1,.tup l=>l.flatMap (aZ n)|_,_=>[]
def ui (f:Nat->SV->SV)(c:SV->Nat):Nat->List SV->List SV
 |_,[] =>[]|b,x::r=>f b x::ui f c (b+c x) r
def j_:Nat->Nat->SV->SV
 |_,b,.nw _ _=>.os b|_,b,.nm _ _ _=>.os b|_,b,.ng _ _=>.os b
 |n+1,b,.agg l=>.agg (ui (j_ n) (λs=>(aZ n s).length) b l)
 |n+1,b,.tup l=>.tup (ui (j_ n) (λs=>(aZ n s).length) b l)
 |_,_,s=>s
def gu:Nat->SV->List Nat
 |_,.ptr id _=>[id]|_,.os id=>[id]|_,.rp _ id _ _=>[id]|_,.gr id _=>[id]|_,.gp _ id _ _ _=>[id]|_,.vw _ id _ _=>[id]|n+1,.ep l _=>l.flatMap (gu n)|n+1,.ls _ l=>l.flatMap (gu n)|n+1,.agg l=>l.flatMap (gu n)|n+1,.tup l=>l.flatMap (gu n)|n+1,.fn _ l m=>l.flatMap (gu n)++m.flatMap (gu n)|n+1,.gd _ _ s=>gu n s|_,_=>[]
def Ww:Ob->List Nat
 | .cells l=>l.flatMap (gu 3)|_=>[]
def reach (h:List Ob):Nat->List Nat->List Nat->List Nat
 |0,_,acc=>acc|_+1,[],acc=>acc|n+1,id::todo,acc=>bif EP id acc then reach h n todo acc else reach h n (Ww (ap h id)++todo) (acc++[id])
def AI (id:Nat):List Nat->Option Nat
 | [] =>none|a::r=>bif Nat.beq a id then some 0 else(AI id r).map (· +1)
def Bz (f:Nat->SV):Option Nat->SV
 |some k=>f k|none=>.any
def ren (m:Nat->Option Nat):Nat->SV->SV
 |_,.ptr id off=>Bz (λk=>.ptr k off) (m id)
 |_,.os id=>Bz (λk=>.os k) (m id)
 |_,.rp s id i off=>Bz (λk=>.rp s k i off) (m id)
 |_,.gr id i=>Bz (λk=>.gr k i) (m id)
 |_,.gp s id i j off=>Bz (λk=>.gp s k i j off) (m id)
 |_,.vw s id lo hi=>Bz (λk=>.vw s k lo hi) (m id)
 |n+1,.ep l o=>.ep (l.map (ren m n)) o|n+1,.ls s l=>.ls s (l.map (ren m n))|n+1,.agg l=>.agg (l.map (ren m n))|n+1,.tup l=>.tup (l.map (ren m n))|n+1,.fn f l l2=>.fn f (l.map (ren m n)) (l2.map (ren m n))|_,.any=>.any|_,.v x=>.v x|_,.e0=>.e0|_,.rc k l=>.rc k l|_,.rs k l=>.rs k l|_,.rm k k2 l=>.rm k k2 l|_,_=>.any
def Ur (kk vk:Tag)(l:List (kk.T×vk.T)):Option kk.T->Option Nat->Ob
 |p,some k=>.mp kk vk l (some (k,p))|some _,none=>.fwd none|none,none=>.mp kk vk l none
def wV (m:Nat->Option Nat):Ob->Ob
 | .cells l=>.cells (l.map (ren m 3))| .mi mid n left cur=>.mi (mid.bind m) n left cur| .fwd n=>.fwd (n.bind m)| .mp kk vk l (some (i,p)) =>Ur kk vk l p (m i)|o=>o
def inN (a:List Nat)(i:Nat):Option Nat:=AI i a
def vN (h:List Ob)(a:List Nat):List Ob:=a.map λb=>wV (inN a) (ap h b)
def tu (a:List Nat)(b k:Nat):Option Nat:=match nth a k with|some c=>some c|none=>some (b+(k - a.length))
def lC (a:List Nat)(b k:Nat):Nat:=match nth a k with|some c=>c|none=>b+(k - a.length)
def oh (ids:List Nat)(b:Nat)(h:List Ob):Nat->List Ob->List Ob
 |_,[] =>h|k,o::r=>oh ids b (cW h (lC ids b k) (wV (tu ids b) o)) (k+1) r
def LF (ids:List Nat)(d:Option Nat)(st:St)(K:St->Prop)(Z:Value->St->Prop):Rs->Prop
 | .ret s h=>K (St.put ⟨st.t,oh ids st.h.length st.h 0 h⟩ d (ren (tu ids st.h.length) 3 s))| .pan x h=>Z x ⟨asC st.t,oh ids st.h.length st.h 0 h⟩
def N0 (ids:List Nat)(g:Nat×Bool)(d:Option Nat)(st:St)(K:St->Prop)(Z:Value->St->Prop):Rs->Prop
 | .ret s h=>K (St.put ⟨st.t,oh ids st.h.length st.h 0 h⟩ d (.gd g.1 g.2 (ren (tu ids st.h.length) 3 s)))| .pan x h=>Z x ⟨asC st.t,oh ids st.h.length st.h 0 h⟩
def BA (ids:List Nat)(d:Option Nat)(st:St)(K:St->Prop)(Z:Value->St->Prop):Option arV->Prop
 |some c=>c.pre/\∀ r,c.post r->LF ids d st K Z (c.res r)|none=>False
def CY (ids:List Nat)(ops:List Oper)(g:Nat×Bool)(d:Option Nat)(st:St)(K:St->Prop)(Z:Value->St->Prop):Option arV->Prop
 |some c=>(dY ops st.t ops.length g->c.pre/\∀ r,c.post r->N0 ids g d st K Z (c.res r))/\(gK ops st.t ops.length g->K (st.put d (.gd g.1 g.2 .any)))|none=>yu ops st.t ops.length g/\K (st.put d (.gd g.1 g.2 .any))
def yw (np:Bool)(ids:List Nat)(d:Option Nat)(st:St)(K:St->Prop)(Z:Value->St->Prop)(c:Option arV):Option Con->Prop
 |some (.det p s) =>bif np||kf 3 s then(p/\K (St.put ⟨st.t,st.h++aZ 3 s⟩ d (j_ 3 st.h.length s)))else BA ids d st K Z c
 |some (.rel _ pre post out) =>pre/\(bif np then ∀ r,post r->K (St.put ⟨st.t,st.h++aZ 3 (out r)⟩ d (j_ 3 st.h.length (out r)))else False)
 |some (.may ok s x) =>bif np||kf 3 s then(ok=true->K (St.put ⟨st.t,st.h++aZ 3 s⟩ d (j_ 3 st.h.length s)))/\(ok=false->Z x ⟨asC st.t,st.h⟩)else False
 |none=>BA ids d st K Z c
def F9 (np:Bool)(ids:List Nat)(ops:List Oper)(g:Nat×Bool)(d:Option Nat)(st:St)(K:St->Prop)(Z:Value->St->Prop)(c:Option arV):Option Con->Prop
 |some (.det p s) =>(dY ops st.t ops.length g->p)/\(bif(np||kf 3 s)&&(aZ 3 s).isEmpty then K (st.put d (.gd g.1 g.2 s))else False)|none=>CY ids ops g d st K Z c|_=>False
def QR (id:Nat)(d:Option Nat)(st:St)(K:St->Prop):Option as9->Prop
 |some c=>c.pre/\∀ r,c.post r->K (St.put ⟨st.t,cW st.h id (.ab (c.res r).2)⟩ d (.b (c.res r).1))|none=>False
def N1 (id:Nat)(ops:List Oper)(g:Nat×Bool)(d:Option Nat)(st:St)(K:St->Prop):Option as9->Prop
 |some c=>(dY ops st.t ops.length g->c.pre/\∀ r,c.post r->K (St.put ⟨st.t,cW st.h id (.ab (c.res r).2)⟩ d (.gd g.1 g.2 (.b (c.res r).1))))/\(gK ops st.t ops.length g->K (st.put d (.gd g.1 g.2 .any)))|none=>False
def LG (G:Cons)(args:List SV):Ob->Option as9
 | .ab r=>G.y args r|_=>none
def Wx (id mid n:Nat)(left:List Nat)(d:Option Nat)(st:St)(next:St->Prop):Ob->Prop
 | .mp kk vk l (some (it,none)) =>(it=id/\n=l.length)/\(left=[]->next (st.put d (.tup [.v (.bool false)])))/\
   ∀ j,j∈left->next (St.put ⟨st.t,cW st.h id (.mi (some mid) n (left.erase j) (some j))⟩ d (.tup [.v (.bool true),svT kk (l.getD j (fg kk,fg vk)).1,svT vk (l.getD j (fg kk,fg vk)).2]))
 |_=>False
def aaB (id:Nat)(d:Option Nat)(st:St)(next:St->Prop):Ob->Prop
 | .mi (some mid) n left _=>Wx id mid n left d st next (ap st.h mid)|_=>False
def oi (G:Cons)(d:Option Nat)(st:St)(next:St->Prop)(Z:Value->St->Prop):OR->Prop
 | .val s=>next (st.put d s)| .chk c s=>c/\next (st.put d s)| .asm c s=>c->next (st.put d s)| .asD s=>next (st.put d s)| .eff c a ups s=>c/\(a->next (St.put ⟨st.t,br st.h ups⟩ d s))| .call f args=>yw (args.all (dM 3)) (reach st.h 64 (args.flatMap (gu 3)) []) d st next Z (G.o f (args.map (ren (inN (reach st.h 64 (args.flatMap (gu 3)) [])) 6)) (vN st.h (reach st.h 64 (args.flatMap (gu 3)) []))) (G.p f (args.map (jq st.h 6)))| .yld id args=>bif args.all (dM 3)then QR id d st next (LG G args (ap st.h id))else False| .nxt id=>aaB id d st next (ap st.h id)| .amb p=>∀ b,p b->next (st.put d (.v (.bool b)))| .pan x=>Z x ⟨asC st.t,st.h⟩| .bad=>False
def stepG (G:Cons)(ops:List Oper)(g:Nat×Bool)(d:Option Nat)(st:St)(next:St->Prop)(Z:Value->St->Prop):OR->Prop
 | .val s=>next (st.put d (.gd g.1 g.2 s))| .chk c s=>(dY ops st.t ops.length g->c)/\next (st.put d (.gd g.1 g.2 s))| .asm _ s=>next (st.put d (.gd g.1 g.2 s))| .asD s=>next (st.put d (.gd g.1 g.2 s))| .eff c a ups s=>(dY ops st.t ops.length g->c/\(a->next (St.put ⟨st.t,br st.h ups⟩ d (.gd g.1 g.2 s))))/\(gK ops st.t ops.length g->next (st.put d (.gd g.1 g.2 .any)))| .call f args=>F9 (args.all (dM 3)) (reach st.h 64 (args.flatMap (gu 3)) []) ops g d st next Z (G.o f (args.map (ren (inN (reach st.h 64 (args.flatMap (gu 3)) [])) 6)) (vN st.h (reach st.h 64 (args.flatMap (gu 3)) []))) (G.p f (args.map (jq st.h 6)))| .yld id args=>bif args.all (dM 3)then N1 id ops g d st next (LG G args (ap st.h id))else False| .bad=>yu ops st.t ops.length g/\next (st.put d (.gd g.1 g.2 .any))| .nxt _=>False| .amb _=>False| .pan _=>False
def kw (ts:Tis)(G:Cons)(ops:List Oper):List Oper->St->(St->Prop)->(Value->St->Prop)->Prop
 | [],st,K,_=>K st
 |o::rest,st,K,Z=>match o.guard with
  |none=>oi G o.dst st (λst'=>kw ts G ops rest st' K Z) Z (opS ⟨ts,ops,none,st,st.h.length⟩ o.op)
  |some g=>stepG G ops g o.dst st (λst'=>kw ts G ops rest st' K Z) Z (opS ⟨ts,ops,some g,st,st.h.length⟩ o.op)
structure Dr where
 c:Prop
 a:Prop
 s:SV
 ups:List Up
 all:List Nat
def drR (np:Bool)(rd:List Nat)(nx:Nat)(p:Prop)(s:SV):List Ob->Option Dr
 | [] =>bif np||kf 3 s then some ⟨p,True,s,[],rd⟩else none
 | [ob] =>bif np||kf 3 s then some ⟨p,True,j_ 3 nx s,[(nx,ob)],rd⟩else none
 |_=>none
def drC (np:Bool)(rd:List Nat)(nx:Nat):Option Con->Option Dr
 |some (.det p s) =>drR np rd nx p s (aZ 3 s)|_=>none
def Wy:Value->Bool
 | .agg _=>false| .tuple _=>false|_=>true
def aaC (C:m0)(i:Nat)(rd:List Nat):Option Con->Option Dr
 |some (.det _ (.fn g [] [.ep [.v _] 0])) =>some ⟨∀ x,Wy x=true->C [.v x]=some (.det True (.fn g [] [.ep [.v x] 0])),True,.fn g [] [.ep [.os i] 0],[],rd⟩|_=>none
def drB (C:m0)(rd:List Nat):List SV->Option Dr
 | [.os i] =>aaC C i rd (C [.v (.bool true)])|_=>none
def drX (C:m0)(rd:List Nat)(args:List SV):Option Dr->Option Dr
 |some r=>some r|none=>drB C rd args
def lB (G:Cons)(h:List Ob)(nx:Nat):OR->Option Dr
 | .val s=>some ⟨True,True,s,[],[]⟩| .chk c s=>some ⟨c,True,s,[],[]⟩| .asm c s=>some ⟨True,c,s,[],[]⟩| .asD s=>some ⟨True,True,s,[],[]⟩| .eff c a ups s=>some ⟨c,a,s,ups,[]⟩| .call f args=>drX (G.p f) (args.flatMap (mw h 6)) args (drC (args.all (dM 3)) (args.flatMap (mw h 6)) nx (G.p f (args.map (jq h 6))))| .bad=>some ⟨False,True,.any,[],[]⟩|_=>none
def drN (d:Option Nat)(b:St)(e:List Nat->List Up->St->Prop)(r:Dr):Prop:=r.c/\(r.a->e r.all r.ups (St.put ⟨b.t,br b.h r.ups⟩ d r.s))
def drG (ops:List Oper)(g:Nat×Bool)(d:Option Nat)(st:St)(next:List Nat->List Up->St->Prop)(r:Dr):Prop:=
 bif r.ups.isEmpty then(dY ops st.t ops.length g->r.c)/\next r.all [] (st.put d (.gd g.1 g.2 r.s))
 else ¬ (dY ops st.t ops.length g/\gK ops st.t ops.length g)/\(dY ops st.t ops.length g->r.c/\(r.a->next r.all r.ups (St.put ⟨st.t,br st.h r.ups⟩ d (.gd g.1 g.2 r.s))))/\(gK ops st.t ops.length g->next r.all [] (st.put d (.gd g.1 g.2 r.s)))
def AJ (d:Option Nat)(st:St)(next:List Nat->List Up->St->Prop)(at8:Prop):Option Dr->Prop
 |some r=>drN d st next r|none=>at8
def yx (ops:List Oper)(g:Nat×Bool)(d:Option Nat)(st:St)(next:List Nat->List Up->St->Prop)(at8:Prop):Option Dr->Prop
 |some r=>drG ops g d st next r|none=>at8
def lh (ts:Tis)(G:Cons)(ops:List Oper)(K:St->Prop)(Z:Value->St->Prop):List Oper->(i b:Nat)->List Fp->St->Prop
 | [],_,b,fps,st=>uh ops b fps/\K st
 |o::rest,i,b,fps,st=>match o.guard with
  |none=>AJ o.dst st (λall ups st'=>lh ts G ops K Z rest (i+1) b (fps++[fpU o.op (fpO ⟨ts,ops,none,st,st.h.length⟩ o.op) all ups]) st')
    (uh ops b fps/\F8 ops i=true/\oi G o.dst st (λst'=>lh ts G ops K Z rest (i+1) (i+1) [] st') Z (opS ⟨ts,ops,none,st,st.h.length⟩ o.op))
    (lB G st.h st.h.length (opS ⟨ts,ops,none,st,st.h.length⟩ o.op))
  |some g=>yx ops g o.dst st (λall ups st'=>lh ts G ops K Z rest (i+1) b (fps++[fpU o.op (fpO ⟨ts,ops,some g,st,st.h.length⟩ o.op) all ups]) st')
    (uh ops b fps/\F8 ops i=true/\stepG G ops g o.dst st (λst'=>lh ts G ops K Z rest (i+1) (i+1) [] st') Z (opS ⟨ts,ops,some g,st,st.h.length⟩ o.op))
    (lB G st.h st.h.length (opS ⟨ts,ops,some g,st,st.h.length⟩ o.op))
def aiG (id:Nat):Ob->SV
 | .fwd (some n) =>.os n|_=>.os id
def Wz (h:List Ob):SV->SV
 | .os id=>aiG id (ap h id)|s=>s
def QS (h:List Ob):List (Nat×SV)->List (Nat×SV)
 | [] =>[]|(d,s)::r=>(d,Wz h s)::QS h r
def S3:Ob->Bool
 | .fwd (some _) =>true|_=>false
def p8:List Ob->Bool
 | [] =>false
 |o::r=>S3 o||p8 r
def adT:Ob->Ob
 | .fwd _=>.dead|o=>o
def Ak:List Ob->List Ob
 | [] =>[]|o::r=>adT o::Ak r
def ata (a:St):St:=bif p8 a.h then ⟨QS a.h a.t,Ak a.h⟩else a
def Al (b:List Oper)(a:St):St:=ata (bif b.any (·.guard.isSome)then ⟨asC a.t,a.h⟩else a)
inductive Ex where
 |normal
 |exit (id:Nat)
 |ret
 |pan (x:Value)
def Ex.then (K:St->Prop)(Q:Ex->St->Prop):Ex->St->Prop
 | .normal,st=>K st|e,st=>Q e st
def Ex.block (id:Nat)(Q:Ex->St->Prop):Ex->St->Prop
 | .exit j,st=>bif Nat.beq j id then Q .normal st else Q (.exit j) st|e,st=>Q e st
def BB (x y:Prop):SV->Prop
 | .v (.bool b) =>(b=true->x)/\(b=false->y)|_=>False
structure asq where
 α:Type
 pre:Prop
 post:α->Prop
 ex:α->Ex
 out:α->St
abbrev xP:=Nat->St->Option asq
def tw (Q:Ex->St->Prop):Option asq->Prop
 |some c=>c.pre/\∀ r,c.post r->Q (c.ex r) (c.out r)|none=>False
def WA:Operand->Nat
 | .tmp n=>n+1000000|_=>0
def atb (t:List (Nat×SV)):List (Nat×SV)->Prop
 | [] =>True|(n,s)::r=>lk n t=s/\atb t r
def inJ (d:St):Ex->St->Prop
 | .normal,st=>st.h=d.h/\atb st.t d.t|_,_=>False
def WB (x y:(Ex->St->Prop)->Prop)(Q:Ex->St->Prop)(s:SV)(c:asq):Prop:=
 BB (x λe st=>∃ r,c.post r/\inJ (c.out r) e st) (y λe st=>∃ r,c.post r/\inJ (c.out r) e st) s/\∀ r,c.post r->Q .normal (c.out r)
def F_ (x y:(Ex->St->Prop)->Prop)(Q:Ex->St->Prop)(s:SV):Option asq->Prop
 |none=>BB (x Q) (y Q) s|some c=>WB x y Q s c
def JC (d:St):asq:=⟨Unit,True,λ_=>True,λ_=>.normal,λ_=>d⟩
def aiH (c:asq)(Q:Ex->St->Prop):Ex->St->Prop
 | .normal,st=>∃ r,c.post r/\inJ (c.out r) .normal st|e,st=>Q e st
def inC (d:St)(Q:Ex->St->Prop):Ex->St->Prop
 | .normal,st=>inJ d .normal st|e,st=>Q e st
def auQ (x:(Ex->St->Prop)->Prop)(Q:Ex->St->Prop)(c:asq):Prop:=x (aiH c Q)/\∀ r,c.post r->Q .normal (c.out r)
def Ga (x:(Ex->St->Prop)->Prop)(Q:Ex->St->Prop):Option asq->Prop
 |none=>x Q|some c=>auQ x Q c
def Ea (ts:Tis)(G:Cons)(ops:Array Oper)(d:Bool)(st:St)(Q:Ex->St->Prop):Prop:=
 bif d then lh ts G ops.toList (λst'=>Q .normal (Al ops.toList st')) (λx st'=>Q (.pan x) st') ops.toList 0 0 [] st
   else kw ts G ops.toList ops.toList st (λst'=>Q .normal (Al ops.toList st')) (λx st'=>Q (.pan x) st')
def exec (ts:Tis)(G:Cons)(L:xP):Code->St->(Ex->St->Prop)->Prop
 | .skip,st,Q=>Q .normal st| .region id ops d,st,Q=>Ga (Ea ts G ops d st) Q (L (id+2000000) st)
 | .seq a b,st,Q=>exec ts G L a st (Ex.then (λst'=>exec ts G L b st' Q) Q)
 | .cond c x y,st,Q=>F_ (exec ts G L x st) (exec ts G L y st) Q (raw st.t c) (L (WA c) st)| .block id (.loop _),st,Q=>tw Q (L id st)| .block id (.rangeFunc ..),st,Q=>tw Q (L id st)| .block id c,st,Q=>exec ts G L c st (Ex.block id Q)| .exit id,st,Q=>Q (.exit id) st| .ret,st,Q=>Q .ret st| .scope c,st,Q=>exec ts G L c st Q| .label _,st,Q=>Q .normal st|_,_,_=>False
def aaD:OR->Option SV
 | .val s=>some s|_=>none
def Us (ts:Tis)(st:St):ResultVar->Option SV
 | .tmp n=>some (lk n st.t)
 | .cell q t=>aaD (aO ts t λti=>tq ti st.h (lk q st.t))
def N2:Option SV->Option (List SV)->Option (List SV)
 |some s,some l=>some (s::l)|_,_=>none
def sS (ts:Tis)(st:St):List ResultVar->Option (List SV)
 | [] =>some []|x::r=>N2 (Us ts st x) (sS ts st r)
def u6:Option (List SV)->Option SV
 |some [s] =>some s|some l=>some (.tup l)|none=>none
def aiI (h:List Ob):Option SV->Option SV
 |some s=>some (jq h 4 s)|none=>none
def Gb (b:List ResultVar)(c:Tis)(a:St):Option SV:=aiI a.h (u6 (sS c a b))
def yy:Ob->SV
 | .row k l=>.nw k l| .mp k k2 l none=>.nm k k2 l| .ar2 k l=>.ng k l|_=>.any
def Am (h:List Ob):Nat->SV->SV
 |_,.os id=>yy (ap h id)|n+1,.agg l=>.agg (l.map (Am h n))|n+1,.tup l=>.tup (l.map (Am h n))|_,.v x=>.v x|_,.rs k l=>.rs k l|_,.rm k k2 l=>.rm k k2 l|_,.e0=>.e0|n,s=>bif dM n s then s else .any
def wW:Nat->SV->List Nat
 |_,.os id=>[id]|n+1,.agg l=>l.flatMap (wW n)|n+1,.tup l=>l.flatMap (wW n)|_,_=>[]
def uniq:List Nat->Bool
 | [] =>true|a::r=>!(EP a r)&&uniq r
def Eb (h:List Ob)(s:SV):Option SV:=bif uniq (wW 3 s)&&(wW 3 s).all (λi=>Nat.blt i h.length)then some (Am h 3 s)else none
def acB (h:List Ob):Option SV->Option SV
 |some s=>Eb h s|none=>none
def Ut (b:List ResultVar)(c:Tis)(a:St):Option SV:=acB a.h (u6 (sS c a b))
def Gc (m:Bool)(a:List ResultVar)(b:Tis)(c:St):Option SV:=bif m then Ut a b c else Gb a b c
def Fu (ops:List Oper)(i:Nat)(o:Oper):Bool:=
 match o.guard with
 |none=>true
 |some (j,_) =>Nat.blt j i&&(match (nth ops j).bind (·.dst)with
  |some d=>(List.range ops.length).all λk=>Nat.beq k j||(match (nth ops k).bind (·.dst)with|some e=>!(Nat.beq d e) |none=>true)
  |none=>false)
def WC (N:Nat)(ops:List Oper):Bool:=
 (List.range ops.length).all λi=>match nth ops i with
  |some o=>(match o.dst with|some d=>Nat.blt d N|none=>true)&&Fu ops i o
  |none=>true
def qT (o:Oper)(k:Nat):Bool:=o.after.toList.any λe=>Nat.beq e.on k&&Region.binds .any e
def QT (ops:Array Oper):Bool:=
 (List.range ops.size).all λi=>match nth ops.toList i with
  |some o=>
   (o.after.toList.all λe=>!(Region.binds .any e) ||Nat.blt e.on i)&&
   (List.range ops.size).all λk=>match nth ops.toList k with
    |some q=>match q.dst with
     |some d=>(Nat.beq k i|| !(o.dst==some d))&&(!((o.looksAt ops).contains d) ||Nat.beq k i||(Nat.blt k i&&qT o k) ||(Nat.blt i k&&qT q i))|none=>true
    |none=>true
  |none=>true
def dq (N:Nat):Code->Bool
 | .region _ ops d=>WC N ops.toList&&(!d||QT ops)| .seq a b=>dq N a&&dq N b| .cond _ a b=>dq N a&&dq N b| .block _ c=>dq N c| .loop c=>dq N c| .scope c=>dq N c| .rangeFunc _ _ a b=>dq N a&&dq N b|_=>true
def oj:Nat->Nat->SV->Bool
 |_,_,.v _=>true|_,_,.rs _ _=>true|_,_,.rm _ _ _=>true|_,_,.any=>true|_,_,.e0=>true|_,_,.rc _ _=>true|_,n,.ptr id _=>Nat.blt id n|_,n,.os id=>Nat.blt id n|_,n,.rp _ id _ _=>Nat.blt id n|_,n,.gr id _=>Nat.blt id n|_,n,.gp _ id _ _ _=>Nat.blt id n|_,n,.vw _ id _ _=>Nat.blt id n|f+1,n,.ep l _=>l.all (oj f n)|f+1,n,.ls _ l=>l.all (oj f n)|f+1,n,.agg l=>l.all (oj f n)|f+1,n,.tup l=>l.all (oj f n)|f+1,n,.fn _ l m=>l.all (oj f n)&&m.all (oj f n)|_,_,_=>false
def Uu (m:Nat->Option Nat)(n:Nat)(t:List (Nat×SV)):List (Nat×SV)->Prop
 | [] =>True|(i,s)::r=>(lk i t=ren m 5 s/\oj 5 n s=true)/\Uu m n t r
def d_:Ob->Bool
 | .dead=>true|_=>false
def xQ (n:Nat):Ob->Bool
 | .cells l=>l.all (oj 3 n)| .mi (some i) _ _ _=>Nat.blt i n| .fwd (some i) =>Nat.blt i n| .mp _ _ _ (some (i,_)) =>Nat.blt i n|_=>true
def unp {κ:Type}:Option (Nat×Option κ)->Option (Nat×Option κ)
 |some (_,none) =>none|p=>p
def S4:SV->Bool
 | .any=>true|_=>false
def wkL:List SV->List SV->List SV
 |a::r,x::s=>(bif S4 a then .any else x)::wkL r s|_,s=>s
def Gd:Ob->Ob->Ob
 | .mp _ _ _ none,.mp kk vk l p=>.mp kk vk l (unp p)| .cells a,.cells l=>.cells (wkL a l)|_,o=>o
def LH (m:Nat->Option Nat)(n:Nat)(h:List Ob)(j:Nat)(o:Ob):Prop:=bif d_ o then True else Gd o (ap h j)=wV m o/\xQ n o=true
def I5 (m:Nat->Option Nat)(n:Nat)(h:List Ob):List Nat->List Ob->Prop
 | [],[] =>True|j::js,o::r=>LH m n h j o/\I5 m n h js r|_,_=>False
def nV:List Nat->List Ob->List Nat
 |j::js,o::r=>bif d_ o then nV js r else j::nV js r|_,_=>[]
def CZ:Nat->List Nat->Nat->Bool
 |_,[],_=>true|i,j::js,n=>(Nat.beq i j||Nat.ble n i)&&CZ (i+1) js n
def Ge (a:List Nat)(i:Nat):Option Nat:=nth a i
def Sub (js:List Nat)(n0:Nat)(st st2:St):Prop:=
 (uniq (nV js st2.h)=true/\CZ 0 js n0=true/\js.all (λj=>Nat.blt j st.h.length)=true)/\Uu (Ge js) st2.h.length st.t st2.t/\I5 (Ge js) st2.h.length st.h js st2.h
def wX {σ:Type}(D:σ->St)(I:σ->Prop)(m:σ->Nat)(n0:Nat)(x:σ)(id:Nat)(Q:Ex->St->Prop):Ex->St->Prop
 | .normal,st=>∃ y js,I y/\m y<m x/\n0<=(D y).h.length/\Sub js n0 st (D y)| .exit j,st=>bif Nat.beq j id then Q .normal st else Q (.exit j) st| .ret,st=>Q .ret st| .pan x,st=>Q (.pan x) st
def pn:Nat->List SV->List (Nat×SV)
 |_,[] =>[]|n,s::r=>(n,s)::pn (n+1) r
def jO (post:SV->Prop):Option SV->Prop
 |some s=>post s|none=>False
def Gf (m:Bool)(rs:List ResultVar)(ts:Tis)(post:SV->Prop)(pp:Value->Prop):Ex->St->Prop
 | .exit _,_=>False| .normal,st=>jO post (Gc m rs ts st)| .ret,st=>jO post (Gc m rs ts st)| .pan x,_=>pp x
def Gg (n0:Nat)(C:arV):Option SV->List Ob->Prop
 |some s,h=>∃ r s' h' js,C.post r/\C.res r=.ret s' h'/\n0<=h'.length/\Sub js n0 ⟨[(0,s)],h⟩ ⟨[(0,s')],h'⟩|none,_=>False
def N3 (n0:Nat)(rs:List ResultVar)(ts:Tis)(C:arV):Ex->St->Prop
 | .exit _,_=>False| .normal,st=>Gg n0 C (u6 (sS ts st rs)) st.h| .ret,st=>Gg n0 C (u6 (sS ts st rs)) st.h| .pan x,st=>∃ r h' js,C.post r/\C.res r=.pan x h'/\n0<=h'.length/\Sub js n0 ⟨[],st.h⟩ ⟨[],h'⟩
structure Hd where
 p:Option Nat:=none
 v:Value:=undef
 vs:List Value:=[]
 bs:List Nat:=[]
abbrev Own:=Nat->Option Hd
def dA (F:Nat->Prop)(a:Own)(b:Nat):Prop:=F b\/∃ id hd,a id=some hd/\b∈hd.bs
def dP:Own:=λ_=>none
def Hd.like (a b:Hd):Prop:=b.p=a.p/\b.v=a.v/\b.vs=a.vs
theorem Hd.like.refl (a:Hd):a.like a:=⟨rfl,rfl,rfl⟩
theorem Hd.like.trans {a b c:Hd}(h:a.like b)(h':b.like c):a.like c:=⟨h'.1.trans h.1,h'.2.1.trans h.2.1,h'.2.2.trans h.2.2⟩
def qZ:Value->Bool
 | .agg _=>false| .tuple _=>false|_=>true
variable {v:Value}
def Gh(h:qZ v=true):v.cells= #[v]:=by cases v <;>first|rfl|simp[qZ]at h
theorem nW(h:qZ v=true):v.oneCell'=true:=by cases v <;>first|rfl|simp[qZ]at h
def adU (x:Value)(e:Nat)(c d:Int)(a:Option Addr):Prop:=d.toNat<=c.toNat\/∃ b o n cap,x=.slice (some ⟨b,o,none⟩) n cap/\d.toNat<=n/\a=some ⟨b,o+c.toNat*e,none⟩
inductive Rel (F:Nat->Prop)(own:Own)(w:World):SV->Value->Prop where
 |any (v:Value):Rel F own w .any v
 |v (x:Value):Rel F own w (.v x) x
 |ptr {id off b:Nat} {hd:Hd}:own id=some hd->hd.p=some b->Rel F own w (.ptr id off) (.pointer (some ⟨b,off,none⟩))
 |os {id:Nat} {hd:Hd}:own id=some hd->qZ hd.v=true->Rel F own w (.os id) hd.v
 |e0 {a:Option Addr}:Rel F own w .e0 (.slice a 0 0)
 |rc {k:Tag} {l:List k.T} {a:Option Addr}:Rel F own w (.rs k l) (.slice a l.length l.length)->Rel F own w (.rc k l) (.slice a l.length l.length)
 |rp {sz id off n cap b o:Nat} {i:Int} {hd:Hd}:own id=some hd->hd.v=.slice (some ⟨b,o,none⟩) n cap->i.toNat<n->Rel F own w (.rp sz id i off) (.pointer (some ⟨b,o+i.toNat*sz+off,none⟩))
 |gr {id:Nat} {i:Int} {v:Value} {hd:Hd}:own id=some hd->hd.vs[i.toNat]? =some v->qZ v=true->Rel F own w (.gr id i) v
 |gp {sz id off n cap b o:Nat} {i j:Int} {hd:Hd}:own id=some hd->hd.vs[i.toNat]? =some (.slice (some ⟨b,o,none⟩) n cap)->j.toNat<n->Rel F own w (.gp sz id i j off) (.pointer (some ⟨b,o+j.toNat*sz+off,none⟩))
 |vw {sz id cap:Nat} {lo hi:Int} {hd:Hd} {a:Option Addr}:own id=some hd->adU hd.v sz lo hi a->hi.toNat - lo.toNat<=cap->Rel F own w (.vw sz id lo hi) (.slice a (hi.toNat - lo.toNat) cap)
 |ep {cells:List SV} {off b o:Nat} (c:Nat->Value):
   (∀ j s,cells[j]? =some s->¬dA F own b/\w.cell? ⟨b,o+j,none⟩=some (c j))->(∀ j s,cells[j]? =some s->Rel F own w s (c j))->
   Rel F own w (.ep cells off) (.pointer (some ⟨b,o+off,none⟩))
 |rs {k:Tag} {l:List k.T} {b o cap:Nat} (c:Nat->Nat->Value):l.length<=cap->l.length<=aI->
   (∀ (i:Nat) (x:k.T),l[i]? =some x->∀ (j:Nat) (s:SV),(cellsOf k x)[j]? =some s->¬dA F own b/\w.cell? ⟨b,o+i*aa k+j,none⟩=some (c i j))->
   (∀ (i:Nat) (x:k.T),l[i]? =some x->∀ (j:Nat) (s:SV),(cellsOf k x)[j]? =some s->Rel F own w s (c i j))->
   Rel F own w (.rs k l) (.slice (some ⟨b,o,none⟩) l.length cap)
 |rs0 {k:Tag} {a:Option Addr} {cap:Nat}:Rel F own w (.rs k []) (.slice a 0 cap)
 |ls {z n:Nat} {l:List SV} {b o cap:Nat} (c:Nat->Value):n*z=l.length->n<=cap->
   (∀ j s,l[j]? =some s->¬dA F own b/\w.cell? ⟨b,o+j,none⟩=some (c j))->(∀ j s,l[j]? =some s->Rel F own w s (c j))->
   Rel F own w (.ls z l) (.slice (some ⟨b,o,none⟩) n cap)
 |rm {kk vk:Tag} {l:List (kk.T×vk.T)} {b:Nat} (ck cv:Nat->Value) (es:Array MapEntry) (clock:Nat):¬dA F own b->w.heap[b]? =some (.map es clock)->es.size=l.length->
   (∀ (i:Nat) (x:kk.T×vk.T),l[i]? =some x->∃ n,es[i]? =some ⟨ck i,cv i,n⟩)->
   (∀ (i:Nat) (x:kk.T×vk.T),l[i]? =some x->Rel F own w (svT kk x.1) (ck i))->(∀ (i:Nat) (x:kk.T×vk.T),l[i]? =some x->Rel F own w (svT vk x.2) (cv i))->
   Rel F own w (.rm kk vk l) (.map (some b))
 |rm0 {kk vk:Tag}:Rel F own w (.rm kk vk []) (.map none)
 |agg {l:List SV} {vs:Array Value}:vs.size=l.length->(∀ (j:Nat) (s:SV),l[j]? =some s->Rel F own w s (vs.getD j undef))->Rel F own w (.agg l) (.agg vs)
 |tup {l:List SV} {vs:Array Value}:vs.size=l.length->(∀ (j:Nat) (s:SV),l[j]? =some s->Rel F own w s (vs.getD j undef))->Rel F own w (.tup l) (.tuple vs)
 |fn {f:FuncId} {first caps:List SV} {us vs:Array Value}:us.size=first.length->vs.size=caps.length->(∀ (j:Nat) (s:SV),first[j]? =some s->Rel F own w s (us.getD j undef))->
   (∀ (j:Nat) (s:SV),caps[j]? =some s->Rel F own w s (vs.getD j undef))->Rel F own w (.fn f first caps) (.func (.func f) us vs)
structure aso (F:Nat->Prop)(own:Own)(w:World)(ee:Own)(w':World):Prop where
 ids:∀ (id:Nat) (hd:Hd),own id=some hd->∃ hd',ee id=some hd'/\hd.like hd'
 keep:∀ b,b<w.heap.size->¬dA F own b->¬dA F ee b/\w'.heap[b]? =w.heap[b]?
 size:w.heap.size<=w'.heap.size
structure Bs where
 w:World
 own:Own:=dP
 ds:List Deferred:=[]
def Old (B:Bs)(b:Nat):Prop:=b<B.w.heap.size/\¬ ∃ id hd,B.own id=some hd/\b∈hd.bs
structure Fr (B:Bs)(own:Own)(w:World):Prop where
 ids:∀ (id:Nat) (hd:Hd),B.own id=some hd->∃ hd',own id=some hd'/\hd.like hd'
 base:∀ (id:Nat) (hd:Hd) (b:Nat),own id=some hd->b∈hd.bs->¬Old B b
 os:w.os=B.w.os
 tape:w.tape=B.w.tape
 output:w.output=B.w.output
 size:B.w.heap.size<=w.heap.size
 block:∀ k,Old B k->w.heap[k]? =B.w.heap[k]?
theorem Fr.refl (B:Bs):Fr B B.own B.w:=⟨λ_ hd h=>⟨hd,h,.refl _⟩,λid hd _ h O E=>E.2 ⟨id,hd,h,O⟩,rfl,rfl,rfl,aom _,λ_ _=>rfl⟩
variable {B:Bs}{w w':World}
theorem Fr.below{own:Own}(h:Fr B own w)(E:Below w.heap.size w w'):Fr B own w':=
 ⟨h.ids,h.base,E.os.trans h.os,E.tape.trans h.tape,E.output.trans h.output,aoA h.size E.size,λk O=>(E.block k (aoy O.1 h.size)).trans (h.block k O)⟩
theorem Fr.drew{own:Own}(h:Fr B own w):Fr B own { w with drawn:=w.drawn+1}:=⟨h.ids,h.base,h.os,h.tape,h.output,h.size,h.block⟩
variable {ee:Own}
theorem Fr.trans{own:Own}(h:Fr B own w)(h':Fr { w:=w,own:=own} ee w'):Fr B ee w':=by
 have E:∀ k,Old B k->Old { w:=w,own:=own} k:=λk O=>⟨aoy O.1 h.size,λ⟨id,hd,X,V⟩ =>h.base id hd k X V O⟩;refine⟨λid hd hi=>?_,λid hd b hi V W=>h'.base id hd b hi V (E b W),h'.os.trans h.os,h'.tape.trans h.tape,h'.output.trans h.output,aoA h.size h'.size,
  λk O=>(h'.block k (E k O)).trans (h.block k O)⟩
 have⟨hd1,e1,l1⟩:=h.ids id hd hi;have⟨hd2,e2,l2⟩:=h'.ids id hd1 e1;exact⟨hd2,e2,l1.trans l2⟩
variable {F:Nat->Prop}
theorem Fr.asx{own:Own}(h:Fr { w:=w,own:=own} ee w'):aso F own w ee w':=
 ⟨h.ids,λb W hn=>by
  have V:Old { w:=w,own:=own} b:=⟨W,λ⟨id,hd,O,E⟩ =>hn (.inr ⟨id,hd,O,E⟩)⟩;refine⟨?_,h.block b V⟩;rintro (X| ⟨id,hd,O,E⟩);exact hn (.inl X);exact h.base id hd b O E V,h.size⟩
theorem Fr.asH{own:Own}(ids:∀ (id:Nat) (hd:Hd),own id=some hd->∃ hd',ee id=some hd'/\hd.like hd')
  (bs:∀ id hd b,ee id=some hd->b∈hd.bs->(∃ E hd',own E=some hd'/\b∈hd'.bs)\/w.heap.size<=b)
  (block:∀ b,b<w.heap.size->(¬ ∃ id hd,own id=some hd/\b∈hd.bs)->w'.heap[b]? =w.heap[b]?) (size:w.heap.size<=w'.heap.size)
  (os:w'.os=w.os) (tape:w'.tape=w.tape) (output:w'.output=w.output):Fr { w:=w,own:=own} ee w':=
 ⟨ids,λid hd b h1 h2 O=>by
  rcases bs id hd b h1 h2 with h|h;exact O.2 h;have:=O.1;grind,os,tape,output,size,λk V=>block k V.1 V.2⟩
def LI{b o:Nat}(h:w.cell? ⟨b,o,none⟩=some v):b<w.heap.size:=World.block_lt_of_cell? w _ h
theorem wa{b:Nat}(h:w'.heap[b]? =w.heap[b]?)(o:Nat):w'.cell? ⟨b,o,none⟩=w.cell? ⟨b,o,none⟩:=by
 grind [World.cell?]
theorem vj{b:Nat}{o:Obj}(h:w.heap[b]? =some o):b<w.heap.size:=by
 grind
structure asa (F:Nat->Prop)(own:Own)(w:World)(F':Nat->Prop)(ee:Own)(w':World):Prop where
 ids:∀ (id:Nat) (hd:Hd),own id=some hd->∃ hd',ee id=some hd'/\hd.like hd'
 keep:∀ b,b<w.heap.size->¬dA F own b->¬dA F' ee b/\w'.heap[b]? =w.heap[b]?
theorem aso.asr{own:Own}(g:aso F own w ee w'):asa F own w F ee w':=⟨g.ids,g.keep⟩
theorem Rel.carry{F':Nat->Prop}{own:Own}(g:asa F own w F' ee w'){s:SV}(h:Rel F own w s v):Rel F' ee w' s v:=by
 induction h with
 |any v=>exact .any v|v x=>exact .v x|ptr h1 h2=>have⟨hd',e,l⟩:=g.ids _ _ h1;exact .ptr e (l.1.trans h2)|os h1 h2=>have⟨hd',e,l⟩:=g.ids _ _ h1;rw[<-l.2.1]at h2 |-;exact .os e h2|e0=>exact .e0|rc _ E=>exact .rc E|rp h1 h2 V=>have⟨hd',e,l⟩:=g.ids _ _ h1;exact .rp e (l.2.1.trans h2) V
 |gr h1 h2 V=>have⟨hd',e,l⟩:=g.ids _ _ h1;exact .gr e (by rw[l.2.2];exact h2) V
 |gp h1 h2 V=>have⟨hd',e,l⟩:=g.ids _ _ h1;exact .gp e (by rw[l.2.2];exact h2) V
 |vw h1 h2 V=>have⟨hd',e,l⟩:=g.ids _ _ h1;exact .vw e (by rw[l.2.1];exact h2) V
 |ep c h1 _ E=>
  refine .ep c (λj s hj=>?_) E;have⟨hn,hc⟩:=h1 j s hj;have⟨hn',hk⟩:=g.keep _ (LI hc) hn;grind [wa]
 |rs c O X h1 _ E=>
  refine .rs c O X (λi x hi j s hj=>?_) E;have⟨hn,hc⟩:=h1 i x hi j s hj;have⟨hn',hk⟩:=g.keep _ (LI hc) hn;grind [wa]
 |rs0=>exact .rs0
 |ls c hz O h1 _ E=>
  refine .ls c hz O (λj s hj=>?_) E;have⟨hn,hc⟩:=h1 j s hj;have⟨hn',hk⟩:=g.keep _ (LI hc) hn;grind [wa]
 |rm ck cv es clock O h1 h2 V _ _ W Y=>
  have⟨hn',hk⟩:=g.keep _ (vj h1) O;exact .rm ck cv es clock hn' g6 h2 V W Y
 |rm0=>exact .rm0|agg O _ E=>exact .agg O E|tup O _ E=>exact .tup O E|fn O X _ _ W Y=>exact .fn O X W Y
theorem Rel.mono{own:Own}(g:aso F own w ee w'){s:SV}(h:Rel F own w s v):Rel F ee w' s v:=h.carry g.asr
theorem aso.refl (F:Nat->Prop)(own:Own)(w:World):aso F own w own w:=⟨λ_ hd h=>⟨hd,h,.refl _⟩,λ_ _ h=>⟨h,rfl⟩,aom _⟩
theorem sb (w:World)(o:Obj)(b:Nat)(h:b<w.heap.size):(w.alloc o).heap[b]? =w.heap[b]?:=Below.heap_alloc w o b h
theorem lW (w:World)(o:Obj):(w.alloc o).heap[w.heap.size]? =some o:=by show(w.heap.push o)[w.heap.size]? =_;simp
theorem QU (w:World)(o:Obj):(w.alloc o).heap.size=w.heap.size+1:=by simp_all
theorem aso.below(F:Nat->Prop)(own:Own)(h:Below w.heap.size w w'):aso F own w own w':=
 ⟨λ_ hd h=>⟨hd,h,.refl _⟩,λb E hn=>⟨hn,h.block b E⟩,h.size⟩
def sd (w:World)(o:Obj):Below w.heap.size w (w.alloc o):=(Below.refl _ _).alloc (aom _) o
theorem iu {α:Type}:∀ (l:List α) (i:Nat),nth l i=l[i]?
 | [],i=>by simp[nth]
 |x::r,0=>by simp[nth]
 |x::r,i+1=>by simp[nth,iu r i]
theorem se:∀ l:List SV,sz l=l.length
 | [] =>rfl
 |x::r=>by simp[sz,se r]
theorem LJ:∀ (n:Nat) (l:List SV),cut n l=l.take n
 |0,l=>by simp[cut]
 |n+1,[] =>by simp[cut]
 |n+1,x::r=>by simp[cut,LJ n r]
theorem Fv:∀ (n:Nat) (l:List SV),NP n l=l.drop n
 |0,l=>by simp[NP]
 |n+1,[] =>by simp[NP]
 |n+1,x::r=>by simp[NP,Fv n r]
theorem BC:∀ (l:List SV) (i:Nat) (s:SV),FW l i s=l.set i s
 | [],i,s=>by simp[FW]
 |x::r,0,s=>by simp[FW]
 |x::r,i+1,s=>by simp[FW,BC r i s]
theorem oY:∀ (vs cells:List SV) (off:Nat),(iG cells off vs).length=cells.length
 | [],cells,off=>rfl
 |x::xs,cells,off=>by simp[iG,oY xs,BC]
theorem p9:∀ (vs cells:List SV) (off:Nat),off+vs.length<=cells.length->∀ j,(iG cells off vs)[j]? =if off<=j/\j<off+vs.length then vs[j - off]? else cells[j]?
 | [],cells,off,_,j=>by simp_all [iG,if_neg]
 |x::xs,cells,off,h,j=>by
  simp[aon]at h;rw[iG,p9 xs _ _ (by simp[BC];omega),BC];grind
theorem wY:∀ (h:List Ob) (id:Nat),ap h id=(h[id]?).getD .dead
 | [],id=>by simp[ap]
 |o::r,0=>by simp[ap]
 |o::r,n+1=>by simp[ap,wY r n]
theorem dU:∀ (h:List Ob) (id:Nat) (x:Ob) (j:Nat),ap (cW h id x) j=if id=j then x else ap h j
 | [],0,x,j=>by cases j <;>simp[cW,ap]
 | [],n+1,x,j=>by
  cases j with
  |zero=>simp[cW,ap]|succ j=>simp only[cW,ap,dU [] n x j];by_cases h:n=j <;>simp[h]
 |o::r,0,x,j=>by cases j <;>simp[cW,ap]
 |o::r,n+1,x,j=>by
  cases j with
  |zero=>simp[cW,ap]|succ j=>simp only[cW,ap,dU r n x j];by_cases h:n=j <;>simp[h]
theorem cT:∀ (h:List Ob) (id:Nat) (x:Ob),(cW h id x).length=if id<h.length then h.length else id+1
 | [],0,x=>by simp[cW]
 | [],n+1,x=>by simp[cW,cT [] n x]
 |o::r,0,x=>by simp[cW]
 |o::r,n+1,x=>by simp[cW,aon,cT r n x];by_cases h:n<r.length <;>simp[h] <;>omega
theorem oz {h:List Ob}{id:Nat}(hi:h.length<=id):ap h id=.dead:=by rw[wY,List.getElem?_eq_none hi];rfl
theorem uj (h l:List Ob)(id:Nat):ap (h++l) id=if id<h.length then ap h id else ap l (id - h.length):=by
 grind [wY]
theorem Gi{own:Own}{s:SV}{l:List SV}(h:Rel F own w s v)(E:qQ s=some l):
  v.cells.size=l.length/\∀ (j:Nat) (x:SV),l[j]? =some x->Rel F own w x (v.cells.getD j undef):=by
 have one:∀ {s:SV} {v:Value},Rel F own w s v->v.cells= #[v]->qQ s=some [s]->qQ s=some l->v.cells.size=l.length/\∀ (j:Nat) (x:SV),l[j]? =some x->Rel F own w x (v.cells.getD j undef):=by
  intro s v h hc h1 h2;rw[h1]at h2;simp[aoo]at h2;subst h2;rw[hc];refine⟨rfl,λj x X=>?_⟩;cases j <;>simp_all
 cases h with
 |any=>simp[qQ]at E
 |v=>
  cases v <;>first|exact one (.v _) rfl rfl E|simp[qQ]at E
  subst E;refine⟨by simp[Value.cells],λj y X=>?_⟩;simp at X;obtain⟨z,Y,rfl⟩:=X;simp[Value.cells,Y];exact .v _
 |ptr h1 h2=>exact one (.ptr h1 h2) rfl rfl E|os h1 h2=>exact one (.os h1 h2) (Gh h2) rfl E|e0=>exact one .e0 rfl rfl E|rc h=>exact one (.rc h) rfl rfl E|rp h1 h2 O=>exact one (.rp h1 h2 O) rfl rfl E|gr h1 h2 O=>exact one (.gr h1 h2 O) (Gh O) rfl E|gp h1 h2 O=>exact one (.gp h1 h2 O) rfl rfl E|vw h1 h2 O=>exact one (.vw h1 h2 O) rfl rfl E|ep c h1 h2=>exact one (.ep c h1 h2) rfl rfl E|rs c V W h1 h2=>exact one (.rs c V W h1 h2) rfl rfl E|rs0=>exact one .rs0 rfl rfl E|ls c Y V h1 h2=>exact one (.ls c Y V h1 h2) rfl rfl E|rm ck cv es clock V h1 h2 O h4 h5=>exact one (.rm ck cv es clock V h1 h2 O h4 h5) rfl rfl E|rm0=>exact one .rm0 rfl rfl E|agg V h1=>simp[qQ]at E;subst E;exact⟨V,h1⟩|tup=>simp[qQ]at E|fn V W h1 h2=>exact one (.fn V W h1 h2) rfl rfl E
end Go.Sx
end
