/- Part of the proof of the law RefuseHoldsSpec (the Upto form). -/
import Derived.Calls
import Derived.Orders
import Derived.Below
import Derived.KernelRfl
import Derived.Laws.Sem
import Derived.Laws.World
import Derived.Laws.Cells
import Derived.Laws.Entries
set_option linter.all false
set_option maxHeartbeats 4000000
set_option maxRecDepth 100000
namespace Go.Sx
theorem XM{p:Prop}(h:p:=by omega):p:=h
theorem XN{p:Prop}(h:p:=by grind):p:=h
def ap9:=@Bool.and_eq_true
def ap_:=@Nat.eq_of_beq_eq_true
def aqa:=@Int.toNat_natCast
def aqb:=@Nat.le_refl
def aqc:=@List.length_cons
def aqd:=@Option.some.injEq
def aqe:=@List.getElem?_eq_some_iff
def aqf:=@List.getElem?_eq_getElem
def aqg:=@List.mem_cons
def aqh:=@List.mem_cons_self
def aqi:=@Nat.lt_of_lt_of_le
def aqj:=@List.mem_cons_of_mem
def aqk:=@List.length_append
def aql:=@List.mem_of_getElem?
def aqm:=@Nat.mul_le_mul_right
def aqn:=@List.eq_nil_of_length_eq_zero
def aqo:=@List.append_nil
def aqp:=@Nat.le_trans
def aqq:=@Nat.zero_le
def aqr:=@List.pairwise_append
def aqs:=@List.nil_append
def aqt:=@Bool.or_eq_false_iff
def aqu:=@Nat.zero_add
def aqv:=@Array.getElem?_append_left
def aqw:=@List.getElem_of_mem
def aqx:=@List.flatMap_cons
def aqy:=@Bool.false_eq_true
def aqz:=@List.mem_append
def aqA:=@Bool.not_eq_true'
def aqB:=@List.cons_append
def aqC:=@Array.getD_eq_getD_getElem?
def aqD:=@List.take_succ_eq_append_getElem
def aqE:=@Bool.not_true
def aqF:=@Sem.run_bind
def aqG:=@Bool.or_eq_true
def aqH:=@Classical.byContradiction
def aqI:=@List.pairwise_singleton
def aqJ:=@List.length_nil
def aqK:=@Result.andThen_ok
def aqL:=@List.getElem_mem
def aqM:=@List.pairwise_iff_getElem
def aqN:=@Bool.not_false
def aqO:=@Int.le_refl
def aqP:=@List.mem_iff_getElem
def aqQ:=@List.nodup_cons
def aqR:=@List.pairwise_cons
def aqS:=@List.length_pos_iff
def aqT:=@List.mem_of_mem_take
def aqU:=@List.all_eq_true
def aqV:=@Bool.cond_eq_ite
def aqW:=@Sum.inr.injEq
def aqX:=@List.getElem?_of_mem
def aqY:=@List.append_assoc
def aqZ:=@List.map_cons
def aq0:=@List.Perm.eq_of_pairwise
def aq1:=@List.mem_map
def aq2:=@List.pairwise_mergeSort
def aq3:=@Int.mul_le_mul_of_nonneg_right
def aq4:=@List.map_nil
def aq5:=@List.length_map
def aq6:=@List.take_append_drop
def aq7:=@List.getElem?_append
def aq8:=@List.mem_singleton
def aq9:=@Bool.not_eq_false'
def aq_:=@List.not_mem_nil
def ara:=@List.length_take
def arb:=@Int.le_ediv_iff_mul_le
def arc:=@List.mergeSort_perm
def ard:=@Int.toNat_of_nonneg
def are:=@List.getElem?_map
def arf:=@Int.mul_le_mul_of_nonneg_left
def arg:=@List.length_filter_le
def arh:=@Nat.lt_irrefl
def ari:=@Nat.lt_or_ge
def arj:=@Bool.eq_iff_iff
def ark:=@List.length_set
def arl:=@Nat.le_mul_of_pos_right
def arm:=@List.any_eq_true
def arn:=@Option.map_eq_some_iff
def aro:=@List.mem_append_right
def arp:=@List.flatMap_nil
def arq:=@Int.emod_lt_of_pos
def ars:=@Int.ediv_le_ediv
def art:=@List.nodup_append
def aru:=@Nat.not_lt_zero
def arv:=@Nat.add_zero
def arw:=@Array.getElem?_append_right
def arx:=@Nat.add_assoc
def ary:=@List.take_length
def arz:=@List.nodup_nil
def arA:=@Int.tmod_eq_emod_of_nonneg
def arB:=@Bool.and_eq_false_iff
def arC:=@Int.mul_ediv_add_emod
def arD:=@List.length_replicate
def arE:=@Array.getElem?_eq_getElem
def arF:=@Int.emod_nonneg
def arG:=@List.length_range
def arH:=@List.length_filterMap_le
def arI:=@List.mem_map_of_mem
def arJ:=@List.range'_succ
def arK:=@Option.bind_some
def arL:=@List.mem_flatMap
def arM:=@List.length_drop
def arN:=@Bool.not_eq_true
def arO:=@Int.mul_nonneg
def arP:=@List.cons.injEq
def arQ:=@List.mem_filter
def arR:=@List.eq_nil_or_concat
def arS:=@List.concat_eq_append
def arT:=@List.getElem?_set
def arU:=@List.pairwise_map
def arV:=@List.getElem?_append_right
def arW:=@List.mem_range
def arX:=@List.mem_append_left
def arY:=@Nat.mul_le_mul
def arZ:=@List.perm_ext_iff_of_nodup
def ar0:=@Nat.sub_self
def ar1:=@List.takeWhile_cons
def ar2:=@List.IsPrefix.trans
def ar3:=@Option.isSome_iff_exists
def ar4:=@Bool.false_or
def ar5:=@Bool.eq_false_or_eq_true
def ar6:=@Option.map_some
def ar7:=@List.map_append
def ar8:=@Nat.mod_lt
def ar9:=@Int.lt_tmod_of_pos
def ar_:=@List.filter_filter
def asa:=@Nat.lt_or_eq_of_le
def asb:=@List.pairwise_filterMap
def asd:=@Value.slice.injEq
def ase:=@Sem.run_pure
def asf:=@Int.lt_trichotomy
def asg:=@Array.getElem?_toList
def ash:=@List.getElem?_toArray
def asi:=@List.filterMap_append
def asj:=@Array.eq_empty_of_size_eq_zero
def asl:=@List.eq_nil_iff_forall_not_mem
def asn:=@Int.ediv_le_self
def aso:=@Bool.or_false
def asq:=@Bool.and_true
def asr:=@Nat.div_le_self
def ass:=@List.filter_eq_self
def ast:=@Int.le_trans
def asu:=@List.getElem?_drop
def asv:=@Array.getElem?_eq_some_iff
def asw:=@List.filter_append
def asx:=@List.getD_eq_getElem?_getD
def asy:=@Int.le_of_mul_le_mul_right
def asz:=@List.getElem?_append_left
def asA:=@List.drop_eq_getElem_cons
def asB:=@Nat.add_mul
def asC:=@Nat.mul_one
def asD:=@Int.mul_tdiv_cancel_left
def asE:=@List.filterMap_cons_none
def asF:=@Bool.true_and
def asG:=@Nat.mod_eq_of_lt
def asH:=@List.getElem?_cons_zero
def asI:=@List.getElem?_cons_succ
def asJ:=@List.flatMap_eq_nil_iff
def asK:=@Int.eq_ofNat_of_zero_le
def asL:=@List.ext_getElem
def asM:=@Int.tmod_eq_emod
def asN:=@Nat.add_sub_cancel_left
def asO:=@Nat.succ_mul
def asP:=@List.drop_eq_nil_of_le
def asQ:=@List.length_eq_one_iff
def asR:=@Classical.em
def asS:=@List.range_succ
def asT:=@Array.getElem?_modify
def asU:=@List.length_mergeSort
def asV:=@List.pairwise_flatMap
def asW:=@List.pairwise_reverse
def asX:=@Array.getElem_of_mem
def asY:=@List.drop_drop
def asZ:=@Int.natAbs_mul
def as0:=@List.drop_zero
def as1:=@List.mem_of_mem_drop
def as2:=@Int.mul_le_mul
def as3:=@Int.toNat_zero
def as4:=@Iff.trans
def as5:=@List.flatMap_append
def as6:=@Addr.mk.injEq
def as7:=@Int.lt_irrefl
def as8:=@Nat.add_sub_cancel
def as9:=@Array.foldl_toList
def as_:=@Nat.div_mul_cancel
def ata:=@Nat.eq_or_lt_of_le
def atb:=@Int.tmod_lt_of_pos
def atc:=@List.mem_filterMap
def atd:=@Int.cast_ofNat_Int
def atg:=@Nat.beq_refl
def atl:=@Array.ext
def atm:=@Nat.sub_mul
def atn:=@Iff.rfl
end Go.Sx
section
namespace Go.Sx
open Go.RowKit
structure Range where
 lo:Int
 hi:Int
 deriving Inhabited,DecidableEq
structure W2 where
 n:Int
 d:Int
 deriving Inhabited,DecidableEq
structure Reach where
 name:ByteArray
 up:Int
 delay:Int
 cap:Int
 at2:Int
 atz:Int
 at5:Range
 atL:W2×W2
 deriving Inhabited,DecidableEq
structure auy where
 name:ByteArray
 reach:Int
 au4:Int
 at9:Int
 deriving Inhabited,DecidableEq
structure au0 where
 name:ByteArray
 need:Int
 deriving Inhabited,DecidableEq
structure atN where
 name:ByteArray
 kind:Int
 gl:Int
 reach:Int
 att:Int
 bn:Int
 since:Int
 to:Int
 every:Int
 length:Int
 deriving Inhabited,DecidableEq
structure au1 where
 name:ByteArray
 gl:Int
 reach:Int
 due:Int
 deriving Inhabited,DecidableEq
structure au2 where
 gl:Int
 reach:Int
 d:Int
 kernel:List Int
 deriving Inhabited,DecidableEq
structure Part where
 gl:Int
 share:W2
 deriving Inhabited,DecidableEq
structure bo where
 no:Int
 kind:Int
 right:Int
 since:Int
 to:Int
 parts:List Part
 of_:Int
 at_:Int
 known:Int
 deriving Inhabited,DecidableEq
structure S1 where
 reach:Int
 hour:Int
 bn:Int
 wanted:Int
 deriving Inhabited,DecidableEq
structure Claim where
 right:Int
 gl:Int
 hour:Int
 bn:Int
 att:Int
 deriving Inhabited,DecidableEq
structure Order where
 hour:Int
 index:Int
 bn:Int
 S2:Bool
 deriving Inhabited,DecidableEq
structure Y1 where
 B1:Claim
 reach:Int
 deriving Inhabited,DecidableEq
structure G2 where
 kind:Int
 hour:Int
 index:Int
 bn:Int
 limit:Int
 deriving Inhabited,DecidableEq
structure atk where
 gl:Int
 reach:Int
 deriving Inhabited,DecidableEq
structure at3 where
 hour:Int
 index:Int
 S2:Bool
 deriving Inhabited,DecidableEq
structure atr where
 right:Int
 gl:Int
 bn:Int
 att:Int
 deriving Inhabited,DecidableEq
structure pq where
 index:Int
 hour:Int
 deriving Inhabited,DecidableEq
structure A1 where
 right:Int
 gl:Int
 deriving Inhabited,DecidableEq
structure auF where
 cap:Int
 start:Int
 deriving Inhabited,DecidableEq
structure ai where
 name:ByteArray
 hours:Int
 atx:auF
 reaches:List Reach
 zs:List auy
 atE:List au0
 bl:List atN
 aty:List au1
 auc:List au2
 deriving Inhabited,DecidableEq
structure atp where
 bl:List Int
 kind:Int
 reach:Int
 hour:Int
 atf:List S1
 deriving Inhabited,DecidableEq
structure M1 where
 d:ai
 c:List Claim
 deriving Inhabited,DecidableEq
structure atW where
 auz:List (Int×Int)
 owned:List (atk×Bool)
 aus:List (atk×Bool)
 deriving Inhabited,DecidableEq
inductive Tag where
 |reach|gl|at9|right|aul|int|auq|part|C1|ath|B1|order|atv|ate|fault|bool|ints|X2|fnc|holding|dd|u0|atx|al|refusal|range|ratio|at6|P1|atI|str
 deriving DecidableEq
abbrev Tag.T:Tag->Type
 | .reach=>Reach| .gl=>auy| .at9=>au0| .right=>atN| .aul=>au1| .int=>Int| .auq=>au2| .part=>Part| .C1=>bo| .ath=>S1| .B1=>Claim| .order=>Order| .atv=>Int×Int| .ate=>Y1| .fault=>G2| .bool=>Bool| .ints=>List Int| .X2=>atk| .fnc=>Option Nat| .holding=>atr| .dd=>pq| .u0=>A1| .atx=>auF| .al=>ai| .refusal=>atp| .range=>Range| .ratio=>W2| .at6=>W2×W2| .P1=>M1| .atI=>atW| .str=>ByteArray
def B9:Tag->Nat
 | .reach=>0| .gl=>1| .at9=>2| .right=>3| .aul=>4| .int=>5| .auq=>6| .part=>7| .C1=>8| .ath=>9| .B1=>10| .order=>11| .atv=>12| .ate=>13| .fault=>14| .bool=>15| .ints=>16| .X2=>17| .fnc=>19| .holding=>20| .dd=>21| .u0=>22| .atx=>23| .al=>24| .refusal=>25| .range=>26| .ratio=>27| .at6=>28| .P1=>29| .atI=>30| .str=>32
def att:Tag->Nat
 | .reach=>0| .gl=>0| .at9=>0| .right=>0| .aul=>0| .int=>0| .auq=>1| .part=>0| .C1=>1| .ath=>0| .B1=>0| .order=>0| .atv=>0| .ate=>0| .fault=>0| .bool=>0| .ints=>1| .X2=>0| .fnc=>1| .holding=>0| .dd=>0| .u0=>0| .atx=>0| .al=>2| .refusal=>1| .range=>0| .ratio=>0| .at6=>0| .P1=>2| .atI=>1| .str=>0
def Tag.ofName:String->Option Tag
 | "api.Reach" =>some .reach
 | "api.Farm" =>some .gl
 | "api.Crop" =>some .at9
 | "api.Right" =>some .right
 | "api.Duty" =>some .aul
 | "api.Errno" =>some .int
 | "expand.refused" =>some .int
 | "int" =>some .int
 | "int64" =>some .int
 | "api.Well" =>some .auq
 | "api.Part" =>some .part
 | "api.Deed" =>some .C1
 | "api.Parcel" =>some .ath
 | "api.Claim" =>some .B1
 | "api.Order" =>some .order
 | "[2]int" =>some .atv
 | "refuse.place" =>some .atv
 | "claims.found" =>some .ate
 | "api.Fault" =>some .fault
 | "bool" =>some .bool
 | "[]int" =>some .ints
 | "claims.use" =>some .X2
 | "func(api.Order) int" =>some .fnc
 | "func(register.book, api.Deed, int)" =>some .fnc
 | "iter.Seq[acequia/api.Fault]" =>some .fnc
 | "api.Holding" =>some .holding
 | "timetable.slot" =>some .dd
 | "register.title" =>some .u0
 | "api.Tank" =>some .atx
 | "api.District" =>some .al
 | "api.Refusal" =>some .refusal
 | "api.Range" =>some .range
 | "api.Ratio" =>some .ratio
 | "[2]api.Ratio" =>some .at6
 | "refuse.scene" =>some .P1
 | "claims.law" =>some .atI
 | "string" =>some .str
 |_=>none
instance instDecTag:(k:Tag)->DecidableEq k.T
 | .reach=>inferInstanceAs (DecidableEq (Reach))| .gl=>inferInstanceAs (DecidableEq (auy))| .at9=>inferInstanceAs (DecidableEq (au0))| .right=>inferInstanceAs (DecidableEq (atN))| .aul=>inferInstanceAs (DecidableEq (au1))| .int=>inferInstanceAs (DecidableEq (Int))| .auq=>inferInstanceAs (DecidableEq (au2))| .part=>inferInstanceAs (DecidableEq (Part))| .C1=>inferInstanceAs (DecidableEq (bo))| .ath=>inferInstanceAs (DecidableEq (S1))| .B1=>inferInstanceAs (DecidableEq (Claim))| .order=>inferInstanceAs (DecidableEq (Order))| .atv=>inferInstanceAs (DecidableEq (Int×Int))| .ate=>inferInstanceAs (DecidableEq (Y1))| .fault=>inferInstanceAs (DecidableEq (G2))| .bool=>inferInstanceAs (DecidableEq (Bool))| .ints=>inferInstanceAs (DecidableEq (List Int))| .X2=>inferInstanceAs (DecidableEq (atk))| .fnc=>inferInstanceAs (DecidableEq (Option Nat))| .holding=>inferInstanceAs (DecidableEq (atr))| .dd=>inferInstanceAs (DecidableEq (pq))| .u0=>inferInstanceAs (DecidableEq (A1))| .atx=>inferInstanceAs (DecidableEq (auF))| .al=>inferInstanceAs (DecidableEq (ai))| .refusal=>inferInstanceAs (DecidableEq (atp))| .range=>inferInstanceAs (DecidableEq (Range))| .ratio=>inferInstanceAs (DecidableEq (W2))| .at6=>inferInstanceAs (DecidableEq (W2×W2))| .P1=>inferInstanceAs (DecidableEq (M1))| .atI=>inferInstanceAs (DecidableEq (atW))| .str=>inferInstanceAs (DecidableEq (ByteArray))
structure Res where
 yv:Value
 n:Nat
 R:(Nat->Prop)->List Nat->World->Prop
 loc:∀ (F F':Nat->Prop) (bs:List Nat) (w w':World),R F bs w->w.heap.size<=w'.heap.size->(∀ b,b<w.heap.size->¬F b->w'.heap[b]? =w.heap[b]?)->(∀ b,b<w.heap.size->F' b->F b)->R F' bs w'
instance:Inhabited Res:=⟨⟨.nilFunc,0,λ_ _ _=>True,λ_ _ _ _ _ _ _ _ _=>trivial⟩⟩
inductive SV where
 |any
 |v (x:Value)
 |ptr (id off:Nat)
 |os (id:Nat)
 |e0
 |rp (sz id:Nat) (i:Int) (off:Nat)
 |gr (id:Nat) (i:Int)
 |gp (sz id:Nat) (i j:Int) (off:Nat)
 |ep (cells:List SV) (off:Nat)
 |rs (k:Tag) (l:List k.T)
 |ls (s:Nat) (l:List SV)
 |rm (kk vk:Tag) (l:List (kk.T×vk.T))
 |agg (l:List SV)
 |tup (l:List SV)
 |fn (f:FuncId) (first caps:List SV)
 |nw (k:Tag) (l:List k.T)
 |nm (kk vk:Tag) (l:List (kk.T×vk.T))
 |ng (k:Tag) (l:List (List k.T))
 |gd (j:Nat) (want:Bool) (s:SV)
 |vw (sz id:Nat) (lo hi:Int)
 |rc (k:Tag) (l:List k.T)
 deriving Inhabited
abbrev SV.i (n:Int):SV:=.v (.int .i64 n)
abbrev SV.b (x:Bool):SV:=.v (.bool x)
abbrev SV.s (x:ByteArray):SV:=.v (.string x)
def fnV:Option Nat->SV|some f=>.fn f [] [] |none=>.v .nilFunc
def cellsOf:(k:Tag)->k.T->List SV
 | .reach,x=>[.v (.string x.name),.i x.up,.i x.delay,.i x.cap,.i x.at2,.i x.atz,.i x.at5.lo,.i x.at5.hi,.i x.atL.1.n,.i x.atL.1.d,.i x.atL.2.n,.i x.atL.2.d]| .gl,x=>[.v (.string x.name),.i x.reach,.i x.au4,.i x.at9]| .at9,x=>[.v (.string x.name),.i x.need]| .right,x=>[.v (.string x.name),.i x.kind,.i x.gl,.i x.reach,.i x.att,.i x.bn,.i x.since,.i x.to,.i x.every,.i x.length]| .aul,x=>[.v (.string x.name),.i x.gl,.i x.reach,.i x.due]| .int,x=>[.i x]| .auq,x=>[.i x.gl,.i x.reach,.i x.d,.rs .int x.kernel]| .part,x=>[.i x.gl,.i x.share.n,.i x.share.d]| .C1,x=>[.i x.no,.i x.kind,.i x.right,.i x.since,.i x.to,.rs .part x.parts,.i x.of_,.i x.at_,.i x.known]| .ath,x=>[.i x.reach,.i x.hour,.i x.bn,.i x.wanted]| .B1,x=>[.i x.right,.i x.gl,.i x.hour,.i x.bn,.i x.att]| .order,x=>[.i x.hour,.i x.index,.i x.bn,.v (.bool x.S2)]| .atv,x=>[.i x.1,.i x.2]| .ate,x=>[.i x.B1.right,.i x.B1.gl,.i x.B1.hour,.i x.B1.bn,.i x.B1.att,.i x.reach]| .fault,x=>[.i x.kind,.i x.hour,.i x.index,.i x.bn,.i x.limit]| .bool,x=>[.v (.bool x)]| .ints,x=>[.rs .int x]| .X2,x=>[.i x.gl,.i x.reach]| .fnc,x=>[fnV x]| .holding,x=>[.i x.right,.i x.gl,.i x.bn,.i x.att]| .dd,x=>[.i x.index,.i x.hour]| .u0,x=>[.i x.right,.i x.gl]| .atx,x=>[.i x.cap,.i x.start]| .al,x=>[.v (.string x.name),.i x.hours,.i x.atx.cap,.i x.atx.start,.rs .reach x.reaches,.rs .gl x.zs,.rs .at9 x.atE,.rs .right x.bl,.rs .aul x.aty,.rs .auq x.auc]| .refusal,x=>[.rs .int x.bl,.i x.kind,.i x.reach,.i x.hour,.rs .ath x.atf]| .range,x=>[.i x.lo,.i x.hi]| .ratio,x=>[.i x.n,.i x.d]| .at6,x=>[.i x.1.n,.i x.1.d,.i x.2.n,.i x.2.d]| .P1,x=>[.v (.string x.d.name),.i x.d.hours,.i x.d.atx.cap,.i x.d.atx.start,.rs .reach x.d.reaches,.rs .gl x.d.zs,.rs .at9 x.d.atE,.rs .right x.d.bl,.rs .aul x.d.aty,.rs .auq x.d.auc,.rs .B1 x.c]| .atI,x=>[.rm .int .int x.auz,.rm .X2 .bool x.owned,.rm .X2 .bool x.aus]| .str,x=>[.v (.string x)]
def ae:Tag->Nat
 | .reach=>12| .gl=>4| .at9=>2| .right=>10| .aul=>4| .int=>1| .auq=>4| .part=>3| .C1=>9| .ath=>4| .B1=>5| .order=>4| .atv=>2| .ate=>6| .fault=>5| .bool=>1| .ints=>1| .X2=>2| .fnc=>1| .holding=>4| .dd=>2| .u0=>2| .atx=>2| .al=>10| .refusal=>5| .range=>2| .ratio=>2| .at6=>4| .P1=>11| .atI=>3| .str=>1
theorem cb (k:Tag)(x:k.T):(cellsOf k x).length=ae k:=by cases k <;>rfl
def eT:(k:Tag)->k.T
 | .reach=>(default:Reach)| .gl=>(default:auy)| .at9=>(default:au0)| .right=>(default:atN)| .aul=>(default:au1)| .int=>(0:Int)| .auq=>(default:au2)| .part=>(default:Part)| .C1=>(default:bo)| .ath=>(default:S1)| .B1=>(default:Claim)| .order=>(default:Order)| .atv=>(default:Int×Int)| .ate=>(default:Y1)| .fault=>(default:G2)| .bool=>false| .ints=>(default:List Int)| .X2=>(default:atk)| .fnc=>(default:Option Nat)| .holding=>(default:atr)| .dd=>(default:pq)| .u0=>(default:A1)| .atx=>(default:auF)| .al=>(default:ai)| .refusal=>(default:atp)| .range=>(default:Range)| .ratio=>(default:W2)| .at6=>(default:W2×W2)| .P1=>(default:M1)| .atI=>(default:atW)| .str=>(ByteArray.mk #[])
inductive Kd where
 |s|b|n (k:IntKind) |r (k:Tag) |m (k k2:Tag) |f
def qx:Tag->Bool
 | .reach=>true| .gl=>true| .at9=>true| .right=>true| .aul=>true| .int=>false| .auq=>true| .part=>true| .C1=>true| .ath=>true| .B1=>true| .order=>true| .atv=>true| .ate=>true| .fault=>true| .bool=>false| .ints=>false| .X2=>true| .fnc=>false| .holding=>true| .dd=>true| .u0=>true| .atx=>true| .al=>true| .refusal=>true| .range=>true| .ratio=>true| .at6=>true| .P1=>true| .atI=>true| .str=>false
def Po:(k:Tag)->List (List k.T)->SV
 | .int,l=>.rs .ints l|_,_=>.any
def dX:Tag->List Kd
 | .reach=>[.s,.n .i64,.n .i64,.n .i64,.n .i64,.n .i64,.n .i64,.n .i64,.n .i64,.n .i64,.n .i64,.n .i64]| .gl=>[.s,.n .i64,.n .i64,.n .i64]| .at9=>[.s,.n .i64]| .right=>[.s,.n .i64,.n .i64,.n .i64,.n .i64,.n .i64,.n .i64,.n .i64,.n .i64,.n .i64]| .aul=>[.s,.n .i64,.n .i64,.n .i64]| .int=>[.n .i64]| .auq=>[.n .i64,.n .i64,.n .i64,.r .int]| .part=>[.n .i64,.n .i64,.n .i64]| .C1=>[.n .i64,.n .i64,.n .i64,.n .i64,.n .i64,.r .part,.n .i64,.n .i64,.n .i64]| .ath=>[.n .i64,.n .i64,.n .i64,.n .i64]| .B1=>[.n .i64,.n .i64,.n .i64,.n .i64,.n .i64]| .order=>[.n .i64,.n .i64,.n .i64,.b]| .atv=>[.n .i64,.n .i64]| .ate=>[.n .i64,.n .i64,.n .i64,.n .i64,.n .i64,.n .i64]| .fault=>[.n .i64,.n .i64,.n .i64,.n .i64,.n .i64]| .bool=>[.b]| .ints=>[.r .int]| .X2=>[.n .i64,.n .i64]| .fnc=>[.f]| .holding=>[.n .i64,.n .i64,.n .i64,.n .i64]| .dd=>[.n .i64,.n .i64]| .u0=>[.n .i64,.n .i64]| .atx=>[.n .i64,.n .i64]| .al=>[.s,.n .i64,.n .i64,.n .i64,.r .reach,.r .gl,.r .at9,.r .right,.r .aul,.r .auq]| .refusal=>[.r .int,.n .i64,.n .i64,.n .i64,.r .ath]| .range=>[.n .i64,.n .i64]| .ratio=>[.n .i64,.n .i64]| .at6=>[.n .i64,.n .i64,.n .i64,.n .i64]| .P1=>[.s,.n .i64,.n .i64,.n .i64,.r .reach,.r .gl,.r .at9,.r .right,.r .aul,.r .auq,.r .B1]| .atI=>[.m .int .int,.m .X2 .bool,.m .X2 .bool]| .str=>[.s]
def toI:SV->Int| .v (.int _ n) =>n|_=>0
def toB:SV->Bool| .v (.bool b) =>b|_=>false
def toS:SV->ByteArray| .v (.string s) =>s|_=>ByteArray.mk #[]
def toF:SV->Option Nat| .fn f [] [] =>some f|_=>none
def Ao:SV->List Reach| .rs .reach l=>l|_=>[]
def B_:SV->List auy| .rs .gl l=>l|_=>[]
def Ca:SV->List au0| .rs .at9 l=>l|_=>[]
def Ap:SV->List atN| .rs .right l=>l|_=>[]
def Cb:SV->List au1| .rs .aul l=>l|_=>[]
def Cc:SV->List Int| .rs .int l=>l|_=>[]
def Cd:SV->List au2| .rs .auq l=>l|_=>[]
def G0:SV->List Part| .rs .part l=>l|_=>[]
def aux:SV->List bo| .rs .C1 l=>l|_=>[]
def Bv:SV->List S1| .rs .ath l=>l|_=>[]
def DF:SV->List Claim| .rs .B1 l=>l|_=>[]
def LG:SV->List Order| .rs .order l=>l|_=>[]
def awZ:SV->List (Int×Int) | .rs .atv l=>l|_=>[]
def aw0:SV->List Y1| .rs .ate l=>l|_=>[]
def aw1:SV->List G2| .rs .fault l=>l|_=>[]
def aw2:SV->List Bool| .rs .bool l=>l|_=>[]
def Pp:SV->List (List Int) | .rs .ints l=>l|_=>[]
def aw3:SV->List atk| .rs .X2 l=>l|_=>[]
def abW:SV->List (Option Nat) | .rs .fnc l=>l|_=>[]
def aw4:SV->List atr| .rs .holding l=>l|_=>[]
def aw5:SV->List pq| .rs .dd l=>l|_=>[]
def Cf:SV->List A1| .rs .u0 l=>l|_=>[]
def XP:SV->List auF| .rs .atx l=>l|_=>[]
def M6:SV->List ai| .rs .al l=>l|_=>[]
def Pr:SV->List atp| .rs .refusal l=>l|_=>[]
def V3:SV->List Range| .rs .range l=>l|_=>[]
def V4:SV->List W2| .rs .ratio l=>l|_=>[]
def Sq:SV->List (W2×W2) | .rs .at6 l=>l|_=>[]
def FJ:SV->List M1| .rs .P1 l=>l|_=>[]
def Kp:SV->List atW| .rs .atI l=>l|_=>[]
def abX:SV->List ByteArray| .rs .str l=>l|_=>[]
def lu:SV->List (atk×Bool) | .rm .X2 .bool l=>l|_=>[]
def zo:SV->List (Int×Int) | .rm .int .int l=>l|_=>[]
def at0:List SV->Nat->SV
 | [],_=>.any|x::_,0=>x|_::r,n+1=>at0 r n
def mkE:(k:Tag)->List SV->k.T
 | .reach,l=>(⟨toS (at0 l 0),toI (at0 l 1),toI (at0 l 2),toI (at0 l 3),toI (at0 l 4),toI (at0 l 5),⟨toI (at0 l 6),toI (at0 l 7)⟩,(⟨toI (at0 l 8),toI (at0 l 9)⟩,⟨toI (at0 l 10),toI (at0 l 11)⟩)⟩:Reach)| .gl,l=>(⟨toS (at0 l 0),toI (at0 l 1),toI (at0 l 2),toI (at0 l 3)⟩:auy)| .at9,l=>(⟨toS (at0 l 0),toI (at0 l 1)⟩:au0)| .right,l=>(⟨toS (at0 l 0),toI (at0 l 1),toI (at0 l 2),toI (at0 l 3),toI (at0 l 4),toI (at0 l 5),toI (at0 l 6),toI (at0 l 7),toI (at0 l 8),toI (at0 l 9)⟩:atN)| .aul,l=>(⟨toS (at0 l 0),toI (at0 l 1),toI (at0 l 2),toI (at0 l 3)⟩:au1)| .int,l=>(toI (at0 l 0):Int)| .auq,l=>(⟨toI (at0 l 0),toI (at0 l 1),toI (at0 l 2),Cc (at0 l 3)⟩:au2)| .part,l=>(⟨toI (at0 l 0),⟨toI (at0 l 1),toI (at0 l 2)⟩⟩:Part)| .C1,l=>(⟨toI (at0 l 0),toI (at0 l 1),toI (at0 l 2),toI (at0 l 3),toI (at0 l 4),G0 (at0 l 5),toI (at0 l 6),toI (at0 l 7),toI (at0 l 8)⟩:bo)| .ath,l=>(⟨toI (at0 l 0),toI (at0 l 1),toI (at0 l 2),toI (at0 l 3)⟩:S1)| .B1,l=>(⟨toI (at0 l 0),toI (at0 l 1),toI (at0 l 2),toI (at0 l 3),toI (at0 l 4)⟩:Claim)| .order,l=>(⟨toI (at0 l 0),toI (at0 l 1),toI (at0 l 2),toB (at0 l 3)⟩:Order)| .atv,l=>((toI (at0 l 0),toI (at0 l 1)):Int×Int)| .ate,l=>(⟨⟨toI (at0 l 0),toI (at0 l 1),toI (at0 l 2),toI (at0 l 3),toI (at0 l 4)⟩,toI (at0 l 5)⟩:Y1)| .fault,l=>(⟨toI (at0 l 0),toI (at0 l 1),toI (at0 l 2),toI (at0 l 3),toI (at0 l 4)⟩:G2)| .bool,l=>(toB (at0 l 0):Bool)| .ints,l=>(Cc (at0 l 0):List Int)| .X2,l=>(⟨toI (at0 l 0),toI (at0 l 1)⟩:atk)| .fnc,l=>(toF (at0 l 0):Option Nat)| .holding,l=>(⟨toI (at0 l 0),toI (at0 l 1),toI (at0 l 2),toI (at0 l 3)⟩:atr)| .dd,l=>(⟨toI (at0 l 0),toI (at0 l 1)⟩:pq)| .u0,l=>(⟨toI (at0 l 0),toI (at0 l 1)⟩:A1)| .atx,l=>(⟨toI (at0 l 0),toI (at0 l 1)⟩:auF)| .al,l=>(⟨toS (at0 l 0),toI (at0 l 1),⟨toI (at0 l 2),toI (at0 l 3)⟩,Ao (at0 l 4),B_ (at0 l 5),Ca (at0 l 6),Ap (at0 l 7),Cb (at0 l 8),Cd (at0 l 9)⟩:ai)| .refusal,l=>(⟨Cc (at0 l 0),toI (at0 l 1),toI (at0 l 2),toI (at0 l 3),Bv (at0 l 4)⟩:atp)| .range,l=>(⟨toI (at0 l 0),toI (at0 l 1)⟩:Range)| .ratio,l=>(⟨toI (at0 l 0),toI (at0 l 1)⟩:W2)| .at6,l=>((⟨toI (at0 l 0),toI (at0 l 1)⟩,⟨toI (at0 l 2),toI (at0 l 3)⟩):W2×W2)| .P1,l=>(⟨⟨toS (at0 l 0),toI (at0 l 1),⟨toI (at0 l 2),toI (at0 l 3)⟩,Ao (at0 l 4),B_ (at0 l 5),Ca (at0 l 6),Ap (at0 l 7),Cb (at0 l 8),Cd (at0 l 9)⟩,DF (at0 l 10)⟩:M1)| .atI,l=>(⟨zo (at0 l 0),lu (at0 l 1),lu (at0 l 2)⟩:atW)| .str,l=>(toS (at0 l 0):ByteArray)
def kN:IntKind->Nat
 | .i8=>0| .i16=>1| .i32=>2| .i64=>3| .u8=>4| .u16=>5| .u32=>6| .u64=>7
def fit:Kd->SV->Bool
 | .s,.v (.string _) =>true| .b,.v (.bool _) =>true| .n k,.v (.int k' _) =>Nat.beq (kN k) (kN k')| .r k,.rs k' _=>Nat.beq (B9 k) (B9 k')| .m k k2,.rm k' k2' _=>Nat.beq (B9 k) (B9 k')&&Nat.beq (B9 k2) (B9 k2')| .f,.fn _ [] [] =>true| .f,.v .nilFunc=>true|_,_=>false
def wX:List Kd->List SV->Bool
 | [],[] =>true|k::ks,x::xs=>fit k x&&wX ks xs|_,_=>false
def Ps:Kd->SV->SV
 | .r k,.v (.slice none 0 0) =>.rs k []| .r k,.e0=>.rs k []| .m k k2,.v (.map none) =>.rm k k2 []|_,s=>s
def Bw:List Kd->List SV->List SV
 |k::ks,s::r=>Ps k s::Bw ks r|_,l=>l
def yQ (k:Tag)(l:List SV):Option k.T:=bif wX (dX k) l then some (mkE k l)else none
def qy (k:Tag)(l:List SV):Option k.T:=yQ k (Bw (dX k) l)
inductive Pk where
 |st (k:Tag)
 |sl (k:Tag)
 |mp (k k2:Tag)
 |o
def DG:Pk->SV->SV
 | .st k,.agg l=>.agg (Bw (dX k) l)| .sl k,s=>Ps (.r k) s| .mp k k2,s=>Ps (.m k k2) s|_,s=>s
def Cg:List Pk->List SV->List SV
 |p::ps,s::r=>DG p s::Cg ps r|_,l=>l
structure TI where
 size:Nat
 bytes:Nat
 agg:Bool
 zero:List SV
 fields:List (Nat×Nat×Bool)
 elem:Nat
 len:Nat
 isSlice:Bool
 auj:Bool
 tag:Option Tag
 int:Option IntKind
 iface:Bool
 eq:List Nat
 mkt:Option Tag
 mvt:Option Tag
 sc:Nat
def svs (v:Value):List SV:=v.cells.toList.map .v
def pY (P:Program)(t:TypeId):Nat:=match P.info? t with|some i=>i.size|none=>0
def lw (P:Program)(t:TypeId):Bool:=match P.underlying t with|some (.struct _) =>true|some (.array _ _) =>true|_=>false
def cG:Option TypeDesc->Nat
 |some (.int _) =>1|some .string=>2|some .bool=>3|_=>0
def eqFields (P:Program):Nat->List Field->Bool
 |_,[] =>true
 |n,f::r=>(f.name != "_")&&Nat.beq f.offset n&&Nat.blt 0 (cG (P.underlying f.type))&&eqFields P (n+1) r
def pw (P:Program)(t:TypeId)(d:TypeDesc):List Nat:=match d with
 | .struct fs=>bif !P.stoodInHeld t&& !P.eqGuardType P.depth t&&eqFields P 0 fs.toList then fs.toList.map λf=>cG (P.underlying f.type)else []
 | .array n e=>bif !P.eqGuardType P.depth t&&Nat.blt 0 (cG (P.underlying e))&&Nat.beq (pY P e) 1 then List.replicate n (cG (P.underlying e))else []|_=>[]
def tw (P:Program)(t:TypeId):List Nat:=match P.underlying t with
 |some (.struct gs) =>bif !P.stoodInHeld t&&eqFields P 0 gs.toList&&Nat.beq (pY P t) gs.size&&(P.info? t).isSome then gs.toList.map λf=>cG (P.underlying f.type)else []
 |d=>bif Nat.blt 0 (cG d)then [cG d]else []
def wY (P:Program):Nat->List Field->Bool
 |_,[] =>true
 |n,f::r=>(f.name != "_")&&Nat.beq f.offset n&&Nat.blt 0 (tw P f.type).length&&wY P (n+(tw P f.type).length) r
def M7 (P:Program)(t:TypeId)(d:TypeDesc):List Nat:=match d with
 | .struct fs=>bif !P.stoodInHeld t&& !P.eqGuardType P.depth t&&wY P 0 fs.toList then fs.toList.flatMap λf=>tw P f.type else []
 |_=>[]
def XQ (P:Program)(t:TypeId)(d:TypeDesc):List Nat:=match pw P t d with
 | [] =>M7 P t d|l=>l
def Ul:SV->SV->Bool
 | .v (.int k a),.v (.int k' b) =>Nat.beq (kN k) (kN k')&&(match a,b with| .ofNat 0,.ofNat 0=>true|_,_=>false)
 | .v (.string a),.v (.string b) =>Nat.beq a.size 0&&Nat.beq b.size 0| .v (.bool false),.v (.bool false) =>true| .rs _ [],.v (.slice none 0 0) =>true| .rm _ _ [],.v (.map none) =>true| .v .nilFunc,.v .nilFunc=>true|_,_=>false
def xQ:List SV->List SV->Bool
 | [],[] =>true|a::r,b::s=>Ul a b&&xQ r s|_,_=>false
def FK:Bool->Bool->Bool
 |true,true=>true|false,false=>true|_,_=>false
def G1:Value->Bool
 | .agg _=>true|_=>false
def G3 (P:Program)(t:TypeId)(i:TypeInfo)(k:Tag):Bool:=
 (match i.zero with|some z=>FK (G1 z) (qx k) |none=>false)&&Nat.beq i.size (ae k)&&Nat.ble 1 i.bytes&&xQ (cellsOf k (eT k)) (match i.zero with|some z=>svs z|none=>[])&&FK (lw P t) (qx k)
def Ba (P:Program)(t:TypeId)(i:TypeInfo):Option Tag:=match Tag.ofName i.str with|some k=>bif G3 P t i k then some k else none|none=>none
def Pt (P:Program)(t:TypeId):Option Tag:=match P.info? t with|some i=>Ba P t i|none=>none
def jY:Kd->Nat
 | .n _=>1| .s=>2| .b=>3|_=>0
def G4:List Nat->List Nat->Bool
 | [],[] =>true|a::r,b::s=>Nat.beq a b&&G4 r s|_,_=>false
def Sr (P:Program)(t:TypeId)(k:Tag):Bool:=match P.underlying t with
 |some d=>bif lw P t then G4 ((dX k).map jY) (pw P t d)&&Nat.blt 0 (dX k).length else G4 ((dX k).map jY) [cG (some d)]&&Nat.blt 0 (cG (some d))|none=>false
def Pu (P:Program)(t:TypeId):Option Tag:=match Pt P t with|some k=>bif Sr P t k then some k else none|none=>none
def eD (P:Program)(t:TypeId)(i:TypeInfo)(d:TypeDesc):TI:=
 {size:=i.size
  bytes:=i.bytes
  agg:=lw P t
  zero:=match i.zero with|some z=>svs z|none=>[]
  fields:=match d with| .struct fs=>fs.toList.map λf=>(f.offset,pY P f.type,lw P f.type) |_=>[]
  elem:=match d with| .slice e=>e| .array _ e=>e| .map _ e=>e|_=>0
  len:=match d with| .array n _=>n|_=>0
  isSlice:=match d with| .slice _=>true|_=>false
  auj:=match d with| .array _ _=>true|_=>false
  tag:=Ba P t i
  int:=match d with| .int k=>some k|_=>none
  iface:=match d with| .interface _=>true|_=>false
  eq:=XQ P t d
  mkt:=match d with| .map k _=>Pu P k|_=>none
  mvt:=match d with| .map _ e=>Pt P e|_=>none
  sc:=cG (some d)}
def Ch (P:Program)(d:TypeDesc):Bool:=match d with| .struct fs=>fs.toList.all λf=>(P.info? f.type).isSome&&(P.underlying f.type).isSome|_=>true
def jZ (P:Program)(t:TypeId):Option TI:=
 match P.info? t,P.underlying t with
 |some i,some d=>bif i.zero.isSome&&Ch P d then some (eD P t i d)else none|_,_=>none
abbrev Tis:=TypeId->Option TI
def Tis.ok (a:Tis)(P:Program):Prop:= ∀ t i,a t=some i->jZ P t=some i
inductive Ob where
 |cells (l:List SV)
 |dead
 |row (k:Tag) (l:List k.T)
 |mp (kk vk:Tag) (l:List (kk.T×vk.T)) (aui:Option (Nat×Option kk.T))
 |atH (k:Tag) (l:List (List k.T))
 |ab (r:Res)
 |raw (o:Obj)
 |mi (mid:Option Nat) (n:Nat) (left:List Nat) (cur:Option Nat)
 |fwd (n:Option Nat)
 |fz (k:Tag) (l:List k.T)
instance:Inhabited Ob:=⟨.dead⟩
structure St where
 t:List (Nat×SV)
 h:List Ob
 deriving Inhabited
def lk (t:Nat):List (Nat×SV)->SV
 | [] =>.any|(a,s)::r=>bif Nat.beq a t then s else lk t r
def St.put (a:St)(d:Option Nat)(s:SV):St:=match d with|some d=>⟨(d,s)::a.t,a.h⟩ |none=>a
def aq:List Ob->Nat->Ob
 | [],_=>.dead|o::_,0=>o|_::r,n+1=>aq r n
def cO:List Ob->Nat->Ob->List Ob
 | [],0,x=>[x]| [],n+1,x=>.dead::cO [] n x|_::r,0,x=>x::r|o::r,n+1,x=>o::cO r n x
abbrev Up:=Nat×Ob
def noE {κ:Type}:Option (Nat×Option κ)->Bool
 |some (_,some _) =>false|_=>true
def bu (h:List Ob):List Up->List Ob
 | [] =>h|(id,o)::r=>bu (cO h id o) r
inductive Con where
 |det (pre:Prop) (s:SV)
 |rel (α:Type) (pre:Prop) (post:α->Prop) (out:α->SV)
 |may (ok:Bool) (s:SV) (x:Value)
abbrev FI:=List SV->Option Con
inductive Rs where
 |ret (s:SV) (h:List Ob)
 |pan (x:Value) (h:List Ob)
structure atB where
 α:Type
 pre:Prop
 post:α->Prop
 res:α->Rs
structure auL where
 α:Type
 pre:Prop
 post:α->Prop
 res:α->Bool×Res
structure Cons where
 p:FuncId->FI
 o:FuncId->List SV->List Ob->Option atB
 y:List SV->Res->Option auL
def rI:SV->Option (List SV)
 | .agg l=>some l| .v (.agg cs) =>some (cs.toList.map .v)| .v (.tuple _) =>none| .any=>none| .tup _=>none| .gd .. =>none| .nw .. =>none| .nm .. =>none| .ng .. =>none|s=>some [s]
def nth {α:Type}:List α->Nat->Option α
 | [],_=>none|x::_,0=>some x|_::r,n+1=>nth r n
def cut:Nat->List SV->List SV
 |0,_=>[]|_+1,[] =>[]|n+1,x::r=>x::cut n r
def Pv:Nat->List SV->List SV
 |0,l=>l|_+1,[] =>[]|n+1,_::r=>Pv n r
def sz:List SV->Nat
 | [] =>0|_::r=>sz r+1
def t5 (agg:Bool)(size:Nat)(cells:List SV)(off:Nat):Option SV:=
 bif agg then(bif Nat.ble (off+size) (sz cells)then some (.agg (cut size (Pv off cells)))else none)
 else nth cells off
def G5:List SV->Nat->SV->List SV
 | [],_,_=>[]|_::r,0,s=>s::r|x::r,n+1,s=>x::G5 r n s
def il (cells:List SV)(off:Nat):List SV->List SV
 | [] =>cells|x::xs=>il (G5 cells off x) (off+1) xs
section
variable {κ υ:Type}
def i6 [DecidableEq κ]:List (κ×υ)->κ->Option υ
 | [],_=>none|(a,b)::r,x=>if x=a then some b else i6 r x
def v9 [DecidableEq κ]:List (κ×υ)->κ->υ->List (κ×υ)
 | [],x,y=>[(x,y)]|(a,b)::r,x,y=>if x=a then(x,y)::r else(a,b)::v9 r x y
def Ss [DecidableEq κ]:List (κ×υ)->κ->Nat
 | [],_=>0|(a,_)::r,x=>if x=a then 0 else Ss r x+1
end
def aF (b a:Tag)(l:List (b.T×a.T))(x:b.T):a.T:=(i6 l x).getD (eT a)
def zp (a b:Tag)(l:List (a.T×b.T))(x:a.T):Bool:=(i6 l x).isSome
def cy (a b:Tag)(l:List (a.T×b.T))(x:a.T)(y:b.T):List (a.T×b.T):=v9 l x y
def DH {κ υ:Type}[DecidableEq κ]:List (κ×υ)->κ->List (κ×υ)
 | [],_=>[]|(a,b)::r,x=>if x=a then r else(a,b)::DH r x
def u6 (a b:Tag)(l:List (a.T×b.T))(x:a.T):List (a.T×b.T):=DH l x
def yR (a b:Tag)(l:List (a.T×b.T))(x:a.T):Nat:=Ss l x
def akg (a b:Tag)(l:List (a.T×b.T))(x:a.T):Option a.T:=if(i6 l x).isSome then none else some x
def svT (k:Tag)(x:k.T):SV:=bif qx k then .agg (cellsOf k x)else(nth (cellsOf k x) 0).getD .any
def Pw (k:Tag):Option (List SV)->Option k.T
 |some l=>qy k l|none=>none
def Kq:SV->Option (List SV)
 | .agg l=>some l| .v (.agg cs) =>some (cs.toList.map .v)|_=>none
def DI:SV->Option (List SV)
 | .agg _=>none| .v (.agg _) =>none|s=>rI s
def unT (k:Tag)(s:SV):Option k.T:=bif qx k then Pw k (Kq s)else Pw k (DI s)
inductive OR where
 |val (s:SV)
 |chk (c:Prop) (s:SV)
 |asm (c:Prop) (s:SV)
 |auh (s:SV)
 |eff (c a:Prop) (ups:List Up) (s:SV)
 |call (f:FuncId) (args:List SV)
 |yld (id:Nat) (args:List SV)
 |nxt (id:Nat)
 |amb (p:Bool->Prop)
 |pan (x:Value)
 |bad
structure Cx where
 ts:Tis
 ops:List Oper
 g:Option (Nat×Bool)
 st:St
 nx:Nat
def uo (ops:List Oper):Nat->Option (Nat×Bool)->Nat->Bool->Bool
 |0,_,_,_=>false|_+1,none,_,_=>false|n+1,some (j,b),j',b'=>bif Nat.beq j j'&&FK b b' then true else uo ops n ((nth ops j).bind (·.guard)) j' b'
def bJ (ops:List Oper)(g:Option (Nat×Bool)):SV->SV
 | .gd j b s=>bif uo ops ops.length g j b then s else .any| .any=>.any| .v x=>.v x| .ptr a b=>.ptr a b| .os a=>.os a| .e0=>.e0| .rc a b=>.rc a b| .rp a b c d=>.rp a b c d| .gr a b=>.gr a b| .gp a b c d e=>.gp a b c d e| .ep a b=>.ep a b| .rs k l=>.rs k l| .ls s l=>.ls s l| .rm k k2 l=>.rm k k2 l| .agg l=>.agg l| .tup l=>.tup l| .fn f l m=>.fn f l m| .nw k l=>.nw k l| .nm k k2 l=>.nm k k2 l| .ng k l=>.ng k l| .vw a b c d=>.vw a b c d
def raw (t:List (Nat×SV)):Operand->SV
 | .tmp n=>lk n t| .const x=>.v x| .func f=>.fn f [] []| .global _=>.any
def val (a:Cx)(x:Operand):SV:=bJ a.ops a.g (raw a.st.t x)
def dE (cx:Cx):List Operand->List SV
 | [] =>[]|x::r=>val cx x::dE cx r
def qA (cx:Cx):Option Operand->Option SV
 |some x=>some (val cx x)|none=>none
def j5 (cx:Cx):List (Nat×Operand)->List (Nat×SV)
 | [] =>[]|(i,x)::r=>(i,val cx x)::j5 cx r
def G6:Operand->Bool
 | .const (.bool true) =>true|_=>false
def Ci:Operand->Bool
 | .const (.bool false) =>true|_=>false
def Px (ops:List Oper)(j:Nat)(c:Operand):Bool:=
 match (nth ops j).bind (·.dst),c with
 |some d,.tmp t=>Nat.beq d t|_,_=>false
def lV (ops:List Oper)(g:Option (Nat×Bool))(c:Operand)(want:Bool):SV->SV
 | .gd j b s=>bif FK b want&&Px ops j c then s else bJ ops g (.gd j b s)|s=>bJ ops g s
def G7 (a b:Operand):SV->SV->SV->OR
 | .v (.bool x),.v (.bool y),.v (.bool z) =>bif G6 a then .val (.b (x||z))else bif Ci b then .val (.b (x&&y))else .bad| .v (.bool x),.any,.v (.bool z) =>.chk (x=false) (.b z)| .v (.bool x),.v (.bool y),.any=>.chk (x=true) (.b y)|_,_,_=>.bad
def oy (k:IntKind)(a b:Int):Int:=a.fdiv (2 ^ min b.toNat k.bits)
def awq (k:IntKind)(a b:Int):Int:=k.wrap (a*2 ^ min b.toNat k.bits)
def akh (k:IntKind)(a b:Int):Int:=k.wrap ((BitVec.ofInt k.bits a&&&BitVec.ofInt k.bits b).toNat:Int)
def orI (k:IntKind)(a b:Int):Int:=k.wrap ((BitVec.ofInt k.bits a|||BitVec.ofInt k.bits b).toNat:Int)
def aki (k:IntKind)(a b:Int):Int:=k.wrap ((BitVec.ofInt k.bits a ^^^ BitVec.ofInt k.bits b).toNat:Int)
def Um (k:IntKind)(a b:Int):Int:=k.wrap ((BitVec.ofInt k.bits a&&& ~~~(BitVec.ofInt k.bits b)).toNat:Int)
def wZ (op:BinOp)(k:IntKind)(a b:Int):OR:=
 match op with
 | .add=>.val (.v (.int k (k.wrap (a+b))))| .sub=>.val (.v (.int k (k.wrap (a - b))))| .mul=>.val (.v (.int k (k.wrap (a*b))))| .quo=>.chk (b≠0) (.v (.int k (k.wrap (a.tdiv b))))| .rem=>.chk (b≠0) (.v (.int k (a.tmod b)))| .shr=>.chk (0<=b) (.v (.int k (oy k a b)))| .shl=>.chk (0<=b) (.v (.int k (awq k a b)))| .and=>.val (.v (.int k (akh k a b)))| .or=>.val (.v (.int k (orI k a b)))| .xor=>.val (.v (.int k (aki k a b)))| .andNot=>.val (.v (.int k (Um k a b)))| .eql=>.val (.v (.bool (a==b)))| .neq=>.val (.v (.bool (a !=b)))| .lss=>.val (.v (.bool (decide (a<b))))| .leq=>.val (.v (.bool (decide (a<=b))))| .gtr=>.val (.v (.bool (decide (a > b))))| .geq=>.val (.v (.bool (decide (a>=b))))
def Uo (op:BinOp)(a b:ByteArray):OR:=
 match op with
 | .eql=>.val (.v (.bool (a==b)))| .neq=>.val (.v (.bool (a !=b)))|_=>.bad
def M8 (op:BinOp)(a b:Bool):OR:=
 match op with
 | .eql=>.val (.v (.bool (a==b)))| .neq=>.val (.v (.bool (a !=b)))|_=>.bad
def eqV (c:Nat):SV->SV->Option Bool
 | .v (.int k a),.v (.int k' b) =>bif Nat.beq c 1&&Nat.beq (kN k) (kN k')then some (a==b)else none| .v (.string a),.v (.string b) =>bif Nat.beq c 2 then some (a==b)else none| .v (.bool a),.v (.bool b) =>bif Nat.beq c 3 then some (a==b)else none|_,_=>none
def Cj:Option Bool->Option Bool->Option Bool
 |some a,some b=>some (a&&b)|_,_=>none
def eqL:List Nat->List SV->List SV->Option Bool
 | [],[],[] =>some true|c::cs,x::r,y::s=>Cj (eqV c x y) (eqL cs r s)|_,_,_=>none
def eqO (op:BinOp):Option Bool->OR
 |some b=>match op with| .eql=>.val (.v (.bool b)) | .neq=>.val (.v (.bool !b)) |_=>.bad
 |none=>.bad
def aff (op:BinOp)(l m:List SV):List Nat->OR
 | [] =>.bad|c::cs=>eqO op (eqL (c::cs) l m)
def aR (a:Tis)(t:TypeId)(k:TI->OR):OR:=match a t with|some i=>k i|none=>.bad
def eqT (a:BinOp)(l m:List SV)(b:TI):OR:=aff a l m b.eq
def E5 (op:BinOp)(k k':IntKind):Bool:=
 match op with
 | .shl=>true| .shr=>true|_=>Nat.beq (kN k) (kN k')
def afg (op:BinOp):SV->SV->OR
 | .v (.int k a),.v (.int k' b) =>bif E5 op k k' then wZ op k a b else .bad|_,_=>.bad
def abY (op:BinOp)(p:Prop):OR:=
 match op with
 | .eql=>.amb λb=>b=true->p
 | .neq=>.amb λb=>b=false->p
 |_=>.bad
def eqS (op:BinOp)(ti:TI):SV->SV->OR
 | .rs _ l,.v (.slice none 0 0) =>bif ti.isSlice then abY op (l=[])else .bad| .v (.string a),.v (.string b) =>bif Nat.beq ti.sc 2 then Uo op a b else .bad| .v (.bool a),.v (.bool b) =>bif Nat.beq ti.sc 3 then M8 op a b else .bad| .agg l,.agg m=>eqT op l m ti|_,_=>.bad
def M9 (ts:Tis)(op:BinOp)(t:TypeId):SV->SV->OR
 | .v (.int k a),.v (.int k' b) =>afg op (.v (.int k a)) (.v (.int k' b))
 |a,b=>aR ts t λti=>eqS op ti a b
def unS:UnOp->SV->OR
 | .not,.v (.bool b) =>.val (.v (.bool !b))| .neg,.v (.int k n) =>.val (.v (.int k (k.wrap (0 - n))))|_,_=>.bad
def w5:Option SV->OR
 |some s=>.val s|none=>.bad
def G8 (agg:Bool)(size szt id:Nat)(i:Int)(off:Nat):Ob->OR
 | .row k l=>bif Nat.beq szt (ae k)then w5 (t5 agg size (cellsOf k (l.getD i.toNat (eT k))) off)else .bad| .atH _ _=>bif Nat.beq szt 1&&Nat.beq off 0&& !agg then .val (.gr id i)else .bad|_=>.bad
def DJ (agg:Bool)(size szt:Nat)(i j:Int)(off:Nat):Ob->OR
 | .atH k l=>bif Nat.beq szt (ae k)then w5 (t5 agg size (cellsOf k ((l.getD i.toNat []).getD j.toNat (eT k))) off)else .bad|_=>.bad
def Ck (agg:Bool)(size off:Nat):Ob->OR
 | .cells l=>w5 (t5 agg size l off)|_=>.bad
def uk (ti:TI)(h:List Ob):SV->OR
 | .ptr id off=>Ck ti.agg ti.size off (aq h id)| .ep l off=>w5 (t5 ti.agg ti.size l off)| .rp s id i off=>G8 ti.agg ti.size s id i off (aq h id)| .gp s id i j off=>DJ ti.agg ti.size s i j off (aq h id)|_=>.bad
def DK (n:Nat):SV->OR
 | .ptr id off=>.val (.ptr id (off+n))| .ep l off=>.val (.ep l (off+n))| .rp s id i off=>.val (.rp s id i (off+n))| .gp s id i j off=>.val (.gp s id i j (off+n))|_=>.bad
def M_ (esz id:Nat)(i:Int):Ob->OR
 | .row k l=>bif Nat.beq esz (ae k)then .chk (0<=i/\i< (l.length:Int)) (.rp esz id i 0)else .bad| .atH _ l=>bif Nat.beq esz 1 then .chk (0<=i/\i< (l.length:Int)) (.rp 1 id i 0)else .bad|_=>.bad
def Su (esz id:Nat)(i j:Int):Ob->OR
 | .atH k l=>bif Nat.beq esz (ae k)then .chk (0<=j/\j< ((l.getD i.toNat []).length:Int)) (.gp esz id i j 0)else .bad|_=>.bad
def Sv (i:Int)(s:Nat)(l:List SV):OR:=bif Nat.ble 1 s&&Nat.ble (i.toNat*s+s) (sz l)then .chk (0<=i) (.ep l (i.toNat*s))else .bad
def iO (ti:TI)(esz:Nat)(h:List Ob):SV->SV->OR
 | .rs k l,.v (.int _ i) =>bif ti.isSlice&&Nat.beq esz (ae k)then .chk (0<=i/\i< (l.length:Int)) (.ep (cellsOf k (l.getD i.toNat (eT k))) 0)else .bad| .os id,.v (.int _ i) =>bif ti.isSlice then M_ esz id i (aq h id)else .bad| .gr id i,.v (.int _ j) =>bif ti.isSlice then Su esz id i j (aq h id)else .bad| .ls s l,.v (.int _ i) =>bif ti.isSlice&&Nat.beq esz s then Sv i s l else .bad| .ptr id off,.v (.int _ i) =>bif ti.auj then .chk (0<=i/\i< (ti.len:Int)) (.ptr id (off+i.toNat*esz))else .bad| .ep l off,.v (.int _ i) =>bif ti.auj then .chk (0<=i/\i< (ti.len:Int)) (.ep l (off+i.toNat*esz))else .bad| .rp s id i off,.v (.int _ j) =>bif ti.auj then .chk (0<=j/\j< (ti.len:Int)) (.rp s id i (off+j.toNat*esz))else .bad|_,_=>.bad
def mY (place:Nat->Option (Nat×Nat))(cells:List SV):List (Nat×SV)->Option (List SV)
 | [] =>some cells
 |(i,v)::rest=>
  match place i,rI v with
  |some (off,size),some vs=>bif Nat.beq (sz vs) size&&Nat.ble (off+size) (sz cells)then mY place (il cells off vs) rest else none|_,_=>none
def ul (k:Tag)(size:Nat):Nat->List SV->Option (List k.T)
 |0,_=>some []
 |n+1,cells=>match qy k (cut size cells),ul k size n (Pv size cells)with
  |some x,some xs=>some (x::xs)|_,_=>none
def FL (n:Nat)(z:List SV):List SV:=match n with|0=>[] |n+1=>z++FL n z
def u7 (f:Option (Nat×Nat×Bool))(l:Option (List SV)):OR:=
 match f,l with
 |some (o,n,g),some l=>w5 (t5 g n l o)|_,_=>.bad
def Sw:SV->Bool
 | .v (.agg _) =>false| .v (.tuple _) =>false| .any=>false| .agg _=>false| .tup _=>false| .gd .. =>false| .nw .. =>false| .nm .. =>false| .ng .. =>false|_=>true
def xR:List SV->Bool
 | [] =>true|x::r=>Sw x&&xR r
def XR (k:Tag)(id:Nat)(i:Int)(l:List k.T):Option k.T->OR
 |some x=>.eff True True [(id,.row k (l.set i.toNat x))] .any|none=>.bad
def Uq (k:Tag)(id:Nat)(i j:Int)(l:List (List k.T)):Option k.T->OR
 |some x=>.eff True True [(id,.atH k (l.set i.toNat ((l.getD i.toNat []).set j.toNat x)))] .any|none=>.bad
def Sy (id off:Nat)(vs:List SV):Ob->OR
 | .cells l=>bif Nat.ble (off+sz vs) (sz l)&&xR vs then .eff True True [(id,.cells (il l off vs))] .any else .bad|_=>.bad
def Sz (s id:Nat)(i:Int)(off:Nat)(vs:List SV):Ob->OR
 | .row k l=>bif Nat.beq s (ae k)&&Nat.ble (off+sz vs) s then XR k id i l (qy k (il (cellsOf k (l.getD i.toNat (eT k))) off vs))else .bad|_=>.bad
def SA (s id:Nat)(i j:Int)(off:Nat)(vs:List SV):Ob->OR
 | .atH k l=>bif Nat.beq s (ae k)&&Nat.ble (off+sz vs) s then Uq k id i j l (qy k (il (cellsOf k ((l.getD i.toNat []).getD j.toNat (eT k))) off vs))else .bad|_=>.bad
def t6 (size:Nat)(h:List Ob):SV->Option (List SV)->OR
 | .ptr id off,some vs=>bif Nat.beq (sz vs) size then Sy id off vs (aq h id)else .bad| .rp s id i off,some vs=>bif Nat.beq (sz vs) size then Sz s id i off vs (aq h id)else .bad| .gp s id i j off,some vs=>bif Nat.beq (sz vs) size then SA s id i j off vs (aq h id)else .bad|_,_=>.bad
def Na:Ob->Bool
 | .atH _ _=>true|_=>false
def XS (k:Tag)(nx id rid:Nat)(i:Int)(l:List (List k.T)):Option (List k.T)->OR
 |some m=>.eff True True [(id,.dead),(rid,.dead),(nx,.atH k (l.set i.toNat m)),(id,.fwd (some nx))] .any|none=>.bad
def G9 (k:Tag):Ob->Option (List k.T)
 | .row k' l=>if h:k'=k then some (h▸l)else none|_=>none
def G_ (nx:Nat)(h:List Ob)(id rid:Nat)(i:Int):Ob->OR
 | .atH k l=>XS k nx id rid i l (G9 k (aq h rid))|_=>.bad
def u9 (size nx:Nat)(h:List Ob):SV->SV->OR
 | .rp s id i off,.os rid=>bif Na (aq h id)then(bif Nat.beq size 1&&Nat.beq s 1&&Nat.beq off 0&& !(Nat.beq id rid)then G_ nx h id rid i (aq h id)else .bad)else t6 size h (.rp s id i off) (rI (.os rid))|a,x=>t6 size h a (rI x)
def XT:SV->OR
 | .ptr id off=>.val (.ptr id off)| .ep l off=>.val (.ep l off)| .rp a b c d=>.val (.rp a b c d)| .gp a b c d e=>.val (.gp a b c d e)
 | .fn f first caps=>.val (.fn f first caps)
 |_=>.bad
def Py:Option IntKind->SV->OR
 |some k,.v (.int _ n) =>.val (.v (.int k (k.wrap n)))|_,_=>.bad
def Nb (nx:Nat):Option (List SV)->OR
 |some l=>.eff True True [(nx,.cells l)] (.ptr nx 0)|none=>.bad
def SB:Option (List SV)->OR
 |some l=>.val (.agg l)|none=>.bad
def ad8 (k:Tag):Option (List k.T)->OR
 |some xs=>.auh (.rs k xs)|none=>.bad
def lsS (n s:Nat)(l:List SV):OR:=bif Nat.beq (sz l) (n*s)&&xR l then .auh (.ls s l)else .bad
def bsT (k:Tag)(ti te:TI)(n:Nat):Option (List SV)->OR
 |some l=>bif Nat.beq te.size (ae k)&&ti.isSlice&&Nat.ble (n*te.size) 16777216&&Nat.beq (sz te.zero) te.size then ad8 k (ul k te.size n l)else .bad|none=>.bad
def bsU (ti te:TI)(n:Nat):Option (List SV)->OR
 |some l=>bif ti.isSlice&&Nat.ble 1 te.size&&Nat.ble (n*te.size) 16777216&&Nat.beq (sz te.zero) te.size then lsS n te.size l else .bad|none=>.bad
def noG:Option (Nat×Bool)->Bool
 |none=>true|some _=>false
def akj:Op->Bool
 | .call ⟨.value _,_,_⟩ =>true|_=>false
def akk:Op->Bool
 | .call ⟨.builtin .append,_,_⟩ =>true|_=>false
def XU:List Oper->Bool
 | [] =>false
 |o::r=>akj o.op||XU r
def Ur:List Oper->Bool
 | [] =>false
 |o::r=>akk o.op||Ur r
def akl:Op->Bool
 | .call ⟨.builtin .clear,_,_⟩ =>true|_=>false
def XV:List Oper->Bool
 | [] =>false
 |o::r=>akl o.op||XV r
def afh:Op->Bool
 | .slice .. =>true|_=>false
def SC:List Oper->Bool
 | [] =>false| [o] =>afh o.op|_::r=>SC r
def Us:List Oper->List Nat
 | [] =>[]|o::r=>bif afh o.op then o.dst.toList++Us r else Us r
def Pz (ds:List Nat):List Operand->Bool
 | [] =>false
 | .tmp d::r=>ds.any (Nat.beq d) ||Pz ds r
 |_::r=>Pz ds r
def XW:Op->List Operand
 | .call ⟨.value _,args,_⟩ =>args.toList|_=>[]
def afi (ds:List Nat):List Oper->Bool
 | [] =>false
 |o::r=>Pz ds (XW o.op) ||afi ds r
def PA (a:List Oper):Bool:=Ur a||XV a||SC a||afi (Us a) a
def akm (a:List Oper)(g:Option (Nat×Bool)):Option (Nat×Bool):=bif Ur a&&XU a then some (0,true)else g
def afj:List (Nat×Operand)->List Operand
 | [] =>[]|(_,x)::r=>x::afj r
def XX:Op->List Operand
 | .build _ parts=>afj parts.toList|_=>[]
def afk (ds:List Nat):List Oper->Bool
 | [] =>false
 |o::r=>Pz ds (XX o.op) ||afk ds r
def akn (t:TypeId):Op->Bool
 | .buildSlice t' _ _=>Nat.beq t t'|_=>false
def Ut (t:TypeId):List Oper->List Nat
 | [] =>[]|o::r=>bif akn t o.op then o.dst.toList++Ut t r else Ut t r
def ad9:Bool:=false
def SD (t:TypeId)(a:List Oper)(g:Option (Nat×Bool)):Option (Nat×Bool):=bif ad9&&afk (Ut t a) a then some (0,true)else akm a g
def ako:SV->Bool
 | .os _=>true|_=>false
def osL:List SV->Bool
 | [] =>false
 |s::r=>ako s||osL r
def osV:SV->Bool
 | .os _=>true| .agg l=>osL l|_=>false
def abZ:List (Nat×SV)->Bool
 | [] =>false
 |(_,s)::r=>osV s||abZ r
def bsG (ti te:TI)(n:Nat)(l:Option (List SV))(os:Bool):Option Tag->OR
 |some k=>bif os then bsU ti te n l else bsT k ti te n l|none=>bsU ti te n l
def ad_:List Kd->Bool
 | [.f] =>true|_=>false
def afl:Option Tag->Option Tag
 |some k=>bif ad_ (dX k)then none else some k|none=>none
def bsS (ti te:TI)(n:Nat)(parts:List (Nat×SV)):OR:=
 bif Nat.beq n 0 then(bif ti.isSlice&&parts.isEmpty then .auh .e0 else .bad)
 else bsG ti te n (mY (λi=>some (i*te.size,te.size)) (FL n te.zero) parts) (abZ parts) (afl te.tag)
def one {α:Type}:List α->Bool
 | [_] =>true|_=>false
def PB (g:Option (Nat×Bool))(nx:Nat)(te:TI):OR->OR
 | .auh (.rs k l) =>bif(te.agg||one l)&&noG g then .eff True True [(nx,.row k l)] (.os nx)else .auh (.rs k l)|r=>r
def XY (i:Nat):SV->OR
 | .tup l=>w5 (nth l i)|_=>.bad
def Cl (args:List SV):SV->OR
 | .fn g first caps=>.call g (first++args++caps)
 | .os id=>.yld id args|_=>.bad
def aD:Nat:=140737488355328
def ab0:Ob->OR
 | .row _ l=>.asm (l.length<=aD) (.i l.length)| .atH _ l=>.asm (l.length<=aD) (.i l.length)|_=>.bad
def afm (i:Int):Ob->OR
 | .atH _ l=>.asm ((l.getD i.toNat []).length<=aD) (.i (l.getD i.toNat []).length)|_=>.bad
def afn (m:Option Tag):Ob->OR
 | .mp _ _ l p=>bif m.isSome&&noE p then .val (.i l.length)else .bad|_=>.bad
def wL (ti:TI)(h:List Ob):List SV->OR
 | [.rs _ l] =>bif ti.isSlice then .asm (l.length<=aD) (.i l.length)else .bad| [.v (.slice none 0 0)] =>bif ti.isSlice then .val (.i 0)else .bad| [.e0] =>bif ti.isSlice then .val (.i 0)else .bad| [.rc _ l] =>bif ti.isSlice then .asm (l.length<=aD) (.i l.length)else .bad| [.os id] =>bif ti.isSlice then ab0 (aq h id)else afn ti.mkt (aq h id)| [.gr id i] =>bif ti.isSlice then afm i (aq h id)else .bad| [.ls s l] =>bif ti.isSlice&&Nat.ble 1 s then .val (.i ((sz l / s:Nat):Int))else .bad|_=>.bad
def Nc:List SV->OR
 | [.v (.int k a),.v (.int _ b)] =>.val (.v (.int k (if b<a then b else a)))|_=>.bad
def Nd:List SV->OR
 | [.v (.int k a),.v (.int _ b)] =>.val (.v (.int k (if a<b then b else a)))|_=>.bad
def XZ:SV->OR
 | .v (.iface t y) =>.pan (.iface t y)|_=>.bad
def Ha (t:TypeId):SV->OR
 | .v (.int k n) =>.val (.v (.iface t (.int k n)))|_=>.bad
def PC (fn:Fn)(first caps:List SV):OR:=
 match fn with
 | .func f=>.val (.fn f first caps)
 |_=>.bad
def dh:Nat:=140737488355328
def Uu (a:Tag):Option Tag->Bool
 |some b=>Nat.beq (B9 a) (B9 b)|none=>false
def Cm (k a:Tag)(l:List a.T):Option (List k.T):=if h:a=k then some (h▸l)else none
def ab1 (k:Tag):Ob->Option (List k.T)
 | .row k' l=>Cm k k' l|_=>none
def afo (k:Tag)(s:Nat)(lo hi:Int):Ob->Option (List k.T)
 | .row k' l=>bif Nat.beq s (ae k')then Cm k k' ((l.take hi.toNat).drop lo.toNat)else none|_=>none
def w6 (k:Tag)(h:List Ob):SV->Option (List k.T)
 | .rs k' l=>Cm k k' l| .v (.slice none 0 0) =>some []| .e0=>some []| .os id=>ab1 k (aq h id)| .vw s id lo hi=>afo k s lo hi (aq h id)|_=>none
def ab2 (k:Tag)(nx bytes:Nat)(kill:List Up)(l:List k.T):Option (List k.T)->OR
 |some m=>.eff ((l++m).length*bytes<=dh) ((l++m).length<=aD) (kill++[(nx,.row k (l++m))]) (.os nx)|none=>.bad
def zc (te:TI)(nx:Nat)(kill:List Up)(h:List Ob)(src:SV):Ob->OR
 | .row k l=>bif Nat.beq te.size (ae k)&&Nat.beq (sz te.zero) te.size&&Nat.ble 1 te.bytes then ab2 k nx te.bytes kill l (w6 k h src)else .bad|_=>.bad
def PD (k:Tag)(nx bytes id2:Nat)(kill:List Up)(l:List (List k.T)):Option (List k.T)->OR
 |some m=>.eff ((l++[m]).length*bytes<=dh) ((l++[m]).length<=aD) (kill++[(id2,.dead),(nx,.atH k (l++[m]))]) (.os nx)|none=>.bad
def Hb (nx bytes:Nat)(h:List Ob)(id2:Nat)(kill:List Up):Ob->OR
 | .atH k l=>PD k nx bytes id2 kill l (ab1 k (aq h id2))|_=>.bad
def afp (nx bytes id2:Nat):Ob->OR
 | .row k m=>PD k nx bytes id2 [] [] (some m)|_=>.bad
def xS (te:TI)(nx:Nat)(h:List Ob)(src:SV):Option Tag->OR
 |some k=>zc te nx [] h src (.row k [])|none=>.bad
def ab3 (te:TI)(id:Nat):Ob->OR
 | .row k l=>bif Nat.beq te.size (ae k)&&Nat.beq (sz te.zero) te.size&&Nat.ble 1 te.bytes then .eff ((l++l).length*te.bytes<=dh) ((l++l).length<=aD) [(id,.fz k l)] (.rs k (l++l))else .bad|_=>.bad
def X0 {α:Type}:List α->Bool
 | [] =>false|_=>true
def aea (k:Tag)(bytes:Nat)(l:List k.T):Option (List k.T)->OR
 |some m=>bif X0 m then .eff ((l++m).length*bytes<=dh) ((l++m).length<=aD) [] (.rs k (l++m))else .bad|none=>.bad
def ab4 (a:TI)(h:List Ob)(b:SV)(k:Tag)(l:List k.T):OR:=bif Nat.beq a.size (ae k)&&Nat.beq (sz a.zero) a.size&&Nat.ble 1 a.bytes then aea k a.bytes l (w6 k h b)else .bad
def nW (te:TI)(nx:Nat)(h:List Ob):List SV->OR
 | [.os id,.ls 1 [.os id2]] =>bif Nat.beq te.size 1&&Nat.beq (sz te.zero) 1&&Nat.ble 1 te.bytes&& !(Nat.beq id id2)then Hb nx te.bytes h id2 [(id,.dead)] (aq h id)else .bad| [.v (.slice none 0 0),.ls 1 [.os id2]] =>bif Nat.beq te.size 1&&Nat.beq (sz te.zero) 1&&Nat.ble 1 te.bytes then afp nx te.bytes id2 (aq h id2)else .bad| [.os id,.os id2] =>bif Nat.beq id id2 then ab3 te id (aq h id)else zc te nx [(id,.dead)] h (.os id2) (aq h id)| [.os id,src] =>zc te nx [(id,.dead)] h src (aq h id)| [.v (.slice none 0 0),src] =>xS te nx h src te.tag| [.e0,src] =>xS te nx h src te.tag| [.rc k l,src] =>ab4 te h src k l|_=>.bad
def zq (k:Tag)(l:List k.T)(a b:Int):List k.T:=if b.toNat<=a.toNat then l else l.take a.toNat++List.replicate (b.toNat - a.toNat) (eT k)++l.drop b.toNat
def afq (te:TI)(s id:Nat)(lo hi:Int):Ob->OR
 | .row k l=>bif Nat.beq s (ae k)&&Uu k te.tag then .eff True True [(id,.row k (zq k l lo hi))] .any else .bad|_=>.bad
def Bx (ti te:TI)(h:List Ob):List SV->OR
 | [.vw s id lo hi] =>bif ti.isSlice then afq te s id lo hi (aq h id)else .bad|_=>.bad
def mkT (nx:Nat)(n c:Int)(te:TI):Option Tag->OR
 |some k=>.eff (n=c/\0<=n/\n*te.bytes<=dh) (n<=aD) [(nx,.row k (List.replicate n.toNat (eT k)))] (.os nx)|none=>.bad
def mkS (nx:Nat)(te:TI):SV->SV->OR
 | .v (.int .i64 n),.v (.int .i64 c) =>mkT nx n c te te.tag|_,_=>.bad
def ab5:List SV->Bool
 | [.v (.slice none 0 0)] =>true|_=>false
def ab6 (nx:Nat)(n c:Int)(te:TI):Option Tag->OR
 |some k=>bif Nat.beq te.size 1&&ab5 te.zero&&Nat.ble 1 te.bytes then .eff (n=c/\0<=n/\n*te.bytes<=dh) (n<=aD) [(nx,.atH k (List.replicate n.toNat []))] (.os nx)else .bad|none=>.bad
def Nf (nx:Nat)(te tr:TI):SV->SV->OR
 | .v (.int .i64 n),.v (.int .i64 c) =>ab6 nx n c te tr.tag|_,_=>.bad
def bnd (d:Int):Option SV->Option Int
 |none=>some d|some (.v (.int _ n)) =>some n|_=>none
def ab7 (k:Tag)(l:List k.T):Option Int->Option Int->OR
 |some lo,some hi=>.chk (0<=lo/\lo<=hi/\hi<=(l.length:Int)) (.rs k ((l.take hi.toNat).drop lo.toNat))|_,_=>.bad
def ab8 (id nx:Nat)(k:Tag)(l:List k.T):Option Int->Option Int->OR
 |some lo,some hi=>.eff (0<=lo/\lo<=hi/\hi<=(l.length:Int)) True [(id,.dead),(nx,.row k ((l.take hi.toNat).drop lo.toNat))] (.os nx)|_,_=>.bad
def ab9 (esz id nx:Nat)(lo hi:Option SV):Ob->OR
 | .row k l=>bif Nat.beq esz (ae k)then ab8 id nx k l (bnd 0 lo) (bnd l.length hi)else .bad|_=>.bad
def X3 (esz id n:Nat):Option Int->OR
 |some a=>.chk (0<=a/\a<=(n:Int)) (.vw esz id a n)|none=>.bad
def X4 (esz id:Nat)(lo:Option SV):Ob->OR
 | .row k l=>bif Nat.beq esz (ae k)then X3 esz id l.length (bnd 0 lo)else .bad|_=>.bad
def px (ti:TI)(esz nx:Nat)(h:List Ob)(lo hi:Option SV)(vq:Bool):SV->OR
 | .rs k l=>bif ti.isSlice&&Nat.beq esz (ae k)then ab7 k l (bnd 0 lo) (bnd l.length hi)else .bad| .os id=>bif ti.isSlice then(bif vq then X4 esz id lo (aq h id)else ab9 esz id nx lo hi (aq h id))else .bad|_=>.bad
def aeb (ti:TI):Option SV->Option SV->SV->SV->OR
 |none,some (.v (.int .i64 0)),.v (.int .i64 0),.v (.slice none 0 0) =>bif ti.isSlice then .val (.v (.slice none 0 0))else .bad|_,_,_,_=>.bad
def aec (ti:TI)(k:Tag)(l:List k.T):Option SV->Option SV->SV->OR
 |none,some (.v (.int .i64 a)),.v (.int .i64 b) =>bif ti.isSlice then .chk (a=(l.length:Int)/\b=(l.length:Int)) (.rc k l)else .bad|_,_,_=>.bad
def Hc (ti:TI)(lo hi:Option SV)(m:SV):SV->OR
 | .rs k l=>aec ti k l lo hi m|x=>aeb ti lo hi m x
def LH (kk vk:Tag)(l:List (kk.T×vk.T))(ok:Bool):Option kk.T->OR
 |some x=>bif ok then .val (.tup [svT vk (aF kk vk l x),.b (zp kk vk l x)])else .val (svT vk (aF kk vk l x))|none=>.bad
def mQ (a:Tag):Option Tag->Bool
 |some b=>Nat.beq (B9 a) (B9 b)|none=>false
def LI {α:Type}:Option α->Bool
 |none=>true|some _=>false
def Uv (ti:TI)(key:SV)(ok:Bool):Ob->OR
 | .mp kk vk l aui=>bif mQ kk ti.mkt&&mQ vk ti.mvt&&(!ok||noE aui)then LH kk vk l ok (unT kk key)else .bad|_=>.bad
def X5 (key:SV)(ok:Bool):Option Tag->Option Tag->OR
 |some kk,some vk=>LH kk vk [] ok (unT kk key)|_,_=>.bad
def wg (ti:TI)(h:List Ob)(ok:Bool)(key:SV):SV->OR
 | .os id=>Uv ti key ok (aq h id)| .rm kk vk l=>bif mQ kk ti.mkt&&mQ vk ti.mvt then LH kk vk l ok (unT kk key)else .bad| .v (.map none) =>X5 key ok ti.mkt ti.mvt|_=>.bad
def afr (id:Nat)(kk vk:Tag)(l:List (kk.T×vk.T)):Option kk.T->Option vk.T->OR
 |some x,some y=>.eff True True [(id,.mp kk vk (cy kk vk l x y) none)] .any|_,_=>.bad
def afs (ti:TI)(id:Nat)(key v:SV):Ob->OR
 | .mp kk vk l p=>bif mQ kk ti.mkt&&mQ vk ti.mvt&&noE p then afr id kk vk l (unT kk key) (unT vk v)else .bad|_=>.bad
def FM (ti:TI)(h:List Ob)(key v:SV):SV->OR
 | .os id=>afs ti id key v (aq h id)|_=>.bad
def V5 (id nx:Nat)(kk vk:Tag)(l:List (kk.T×vk.T)):Option kk.T->OR
 |some x=>.eff True True [(nx,.fwd none),(id,.mp kk vk l (some (nx,some x)))] (.tup [svT vk (aF kk vk l x),.os nx])|none=>.bad
def V6 (ti:TI)(id nx:Nat)(key:SV):Ob->OR
 | .mp kk vk l p=>bif mQ kk ti.mkt&&mQ vk ti.mvt&&noE p then V5 id nx kk vk l (unT kk key)else .bad|_=>.bad
def Cn (ti:TI)(nx:Nat)(h:List Ob)(key:SV):SV->OR
 | .os id=>V6 ti id nx key (aq h id)|_=>.bad
def aft (id:Nat)(kk vk:Tag)(l:List (kk.T×vk.T))(x:kk.T):Option vk.T->OR
 |some y=>.eff True True [(id,.mp kk vk (cy kk vk l x y) none)] .any|none=>.bad
def afu (ti:TI)(id n:Nat)(v:SV):Ob->OR
 | .mp kk vk l (some (n',some x)) =>bif mQ kk ti.mkt&&mQ vk ti.mvt&&Nat.beq n' n then aft id kk vk l x (unT vk v)else .bad|_=>.bad
def Ng (ti:TI)(h:List Ob)(v:SV):SV->SV->OR
 | .os id,.os n=>afu ti id n v (aq h id)|_,_=>.bad
def afv (id:Nat)(kk vk:Tag)(l:List (kk.T×vk.T)):Option kk.T->OR
 |some x=>.eff True True [(id,.mp kk vk (u6 kk vk l x) none)] .any|none=>.bad
def afw (ti:TI)(id:Nat)(key:SV):Ob->OR
 | .mp kk vk l p=>bif mQ kk ti.mkt&&mQ vk ti.mvt&&noE p then afv id kk vk l (unT kk key)else .bad|_=>.bad
def By (ti:TI)(h:List Ob):List SV->OR
 | [.os id,key] =>afw ti id key (aq h id)|_=>.bad
def mmR (nx:Nat):Option Tag->Option Tag->OR
 |some kk,some vk=>.eff True True [(nx,.mp kk vk [] none)] (.os nx)|_,_=>.bad
def zsO (z:List SV):OR:=.val (.tup [.agg z,.b false])
def taS (t:TypeId)(ok:Bool)(ti:TI):SV->OR
 | .v (.iface t' y) =>bif ti.iface then .bad else bif Nat.beq t' t then(bif ok then .val (.tup [.v y,.b true])else .val (.v y))else .bad|_=>.bad
def ab_ (ti:TI)(nx id:Nat):Ob->OR
 | .mp kk vk l p=>bif mQ kk ti.mkt&&mQ vk ti.mvt&&noE p then .eff True True [(nx,.mi (some id) l.length (List.range l.length) none),(id,.mp kk vk l (some (nx,none)))] (.ptr nx 0)else .bad|_=>.bad
def Nh (ti:TI)(nx:Nat)(h:List Ob):SV->OR
 | .os id=>ab_ ti nx id (aq h id)|_=>.bad
def X6:SV->OR
 | .ptr id 0=>.nxt id|_=>.bad
def X7 (id n j:Nat):Ob->OR
 | .mp kk vk l (some (it,none)) =>bif Nat.beq it id then .chk (n=l.length/\j<n) (.tup [svT kk (l.getD j (eT kk,eT vk)).1,svT vk (l.getD j (eT kk,eT vk)).2])else .bad|_=>.bad
def Uw (h:List Ob)(id:Nat):Ob->OR
 | .mi (some mid) n _ (some j) =>X7 id n j (aq h mid)|_=>.bad
def E6 (h:List Ob):SV->OR
 | .ptr id 0=>Uw h id (aq h id)|_=>.bad
def opS (cx:Cx):Op->OR
 | .move x=>.val (val cx x)| .assign x=>.val (val cx x)| .pick c a b=>G7 a b (val cx c) (lV cx.ops cx.g c true (raw cx.st.t a)) (lV cx.ops cx.g c false (raw cx.st.t b))
 | .alloc t=>aR cx.ts t λti=>Nb cx.nx (some ti.zero)
 | .box _ x=>Nb cx.nx (rI (val cx x))
 | .build t parts=>aR cx.ts t λti=>
  bif ti.auj then aR cx.ts ti.elem λte=>SB (mY (λi=>some (i*te.size,te.size)) ti.zero (j5 cx parts.toList))
  else bif ti.agg then SB (mY (λi=>(nth ti.fields i).map λf=>(f.1,f.2.1)) ti.zero (j5 cx parts.toList))
  else .bad
 | .buildSlice t n parts=>aR cx.ts t λti=>aR cx.ts ti.elem λte=>PB (SD t cx.ops cx.g) cx.nx te (bsS ti te n (j5 cx parts.toList))
 | .load t a=>aR cx.ts t λti=>uk ti cx.st.h (val cx a)
 | .store t a x=>aR cx.ts t λti=>u9 ti.size cx.nx cx.st.h (val cx a) (val cx x)
 | .nilCheck x=>XT (val cx x)| .binOp op t x y _=>M9 cx.ts op t (val cx x) (val cx y)| .unOp op _ x=>unS op (val cx x)
 | .convert src dst x=>aR cx.ts src λ_=>aR cx.ts dst λti=>Py ti.int (val cx x)
 | .makeFunc fn first captured=>PC fn (dE cx first.toList) (dE cx captured.toList)
 | .fieldAddr t x f=>aR cx.ts t λti=>match nth ti.fields f with|some (o,n,_) =>bif Nat.ble 1 n then DK o (val cx x)else .bad|none=>.bad
 | .field t x f=>aR cx.ts t λti=>u7 (nth ti.fields f) (Kq (val cx x))
 | .indexAddr t x i=>aR cx.ts t λti=>aR cx.ts ti.elem λte=>iO ti te.size cx.st.h (val cx x) (val cx i)
 | .extract x i=>XY i (val cx x)| .panic x=>XZ (val cx x)
 | .makeInterface t x=>aR cx.ts t λti=>bif ti.iface then .bad else Ha t (val cx x)
 | .makeSlice t n c=>aR cx.ts t λti=>aR cx.ts ti.elem λte=>bif ti.isSlice then(bif te.isSlice then aR cx.ts te.elem λtr=>Nf cx.nx te tr (val cx n) (val cx c)else mkS cx.nx te (val cx n) (val cx c))else .bad
 | .slice t x lo hi none=>aR cx.ts t λti=>aR cx.ts ti.elem λte=>px ti te.size cx.nx cx.st.h (qA cx lo) (qA cx hi) (LI hi&&PA cx.ops) (val cx x)
 | .slice t x lo hi (some m) =>aR cx.ts t λti=>aR cx.ts ti.elem λ_=>Hc ti (qA cx lo) (qA cx hi) (val cx m) (val cx x)
 | .makeMap t none=>aR cx.ts t λti=>mmR cx.nx ti.mkt ti.mvt
 | .lookup t m k ok=>aR cx.ts t λti=>wg ti cx.st.h ok (val cx k) (val cx m)
 | .mapUpdate t m k v=>aR cx.ts t λti=>FM ti cx.st.h (val cx k) (val cx v) (val cx m)
 | .insert t m k v=>aR cx.ts t λti=>FM ti cx.st.h (val cx k) (val cx v) (val cx m)
 | .mapEntry t m k=>aR cx.ts t λti=>Cn ti cx.nx cx.st.h (val cx k) (val cx m)
 | .entryStore t m s v=>aR cx.ts t λti=>Ng ti cx.st.h (val cx v) (val cx m) (val cx s)
 | .range t m=>aR cx.ts t λti=>Nh ti cx.nx cx.st.h (val cx m)
 | .next it false=>X6 (val cx it)| .entry it=>E6 cx.st.h (val cx it)
 | .typeAssert x _ t ok=>aR cx.ts t λti=>taS t ok ti (val cx x)
 | .call ⟨.value f,args,_⟩ =>Cl (dE cx args.toList) (val cx f)
 | .call ⟨.builtin .len,args,tys⟩ =>match tys.toList with| [t] =>aR cx.ts t λti=>wL ti cx.st.h (dE cx args.toList) |_=>.bad
 | .call ⟨.builtin .delete,args,tys⟩ =>match tys.toList with|t::_=>aR cx.ts t λti=>By ti cx.st.h (dE cx args.toList) |_=>.bad
 | .call ⟨.builtin .clear,args,tys⟩ =>match tys.toList with| [t] =>aR cx.ts t λti=>aR cx.ts ti.elem λte=>Bx ti te cx.st.h (dE cx args.toList) |_=>.bad
 | .call ⟨.builtin .min,args,_⟩ =>Nc (dE cx args.toList)| .call ⟨.builtin .max,args,_⟩ =>Nd (dE cx args.toList)
 | .call ⟨.builtin .append,args,tys⟩ =>match tys.toList with| [t,t2] =>aR cx.ts t λti=>aR cx.ts t2 λti2=>aR cx.ts ti.elem λte=>bif ti.isSlice&&ti2.isSlice then nW te cx.nx cx.st.h (dE cx args.toList)else .bad|_=>.bad
 |_=>.bad
structure Fp where
 all:List Nat
 rd:List Nat
 wk:List Nat
 tc:List Nat
 wt:List Nat
def gm:SV->List Nat
 | .ptr id _=>[id]| .os id=>[id]| .rp _ id _ _=>[id]| .gr id _=>[id]| .gp _ id _ _ _=>[id]| .vw _ id _ _=>[id]|_=>[]
def Ni:SV->List Nat
 | .ls _ [.os id] =>[id]|s=>gm s
def rJ:List SV->List Nat
 | [] =>[]|s::r=>Ni s++rJ r
def X8:Ob->List Nat
 | .mi (some mid) _ _ _=>[mid]|_=>[]
def X9 (h:List Ob):SV->List Nat
 | .ptr id _=>X8 (aq h id)|_=>[]
def fpO (cx:Cx):Op->List Nat×List Nat
 | .range _ m=>(gm (val cx m),[])| .entry it=>(gm (val cx it)++X9 cx.st.h (val cx it),[])| .load _ a=>(gm (val cx a),[])| .store _ a x=>(gm (val cx a)++gm (val cx x),[])| .indexAddr _ x _=>(gm (val cx x),[])| .slice _ x _ _ _=>(gm (val cx x),[])| .lookup _ m _ ok=>bif ok then(gm (val cx m),[])else([],gm (val cx m))| .mapUpdate _ m _ _=>(gm (val cx m),[])| .insert _ m _ _=>(gm (val cx m),[])| .mapEntry _ m _=>(gm (val cx m),[])| .entryStore _ m _ _=>(gm (val cx m),[])| .call ⟨.builtin .len,args,_⟩ =>(rJ (dE cx args.toList),[])| .call ⟨.builtin .append,args,_⟩ =>(rJ (dE cx args.toList),[])| .call ⟨.builtin .delete,args,_⟩ =>(rJ (dE cx args.toList),[])| .call ⟨.builtin .clear,args,_⟩ =>(rJ (dE cx args.toList),[])|_=>([],[])
def fA:List Up->List Nat
 | [] =>[]|(id,_)::r=>id::fA r
def Co:Op->Bool
 | .mapEntry .. =>true|_=>false
def fpU (o:Op)(x:List Nat×List Nat)(all:List Nat)(ups:List Up):Fp:=
 bif Co o then ⟨all,x.1,x.2,[],fA ups⟩else ⟨all,x.1,x.2,fA ups,[]⟩
def PE (as:List Nat):List Edge->Nat
 | [] =>0|e::r=>bif Region.binds .any e then Nat.lor (Nat.lor ((nth as e.on).getD 0) (Nat.shiftLeft 1 e.on)) (PE as r)else PE as r
def DL:List Oper->List Nat->List Nat
 | [],as=>as|o::r,as=>DL r (as++[PE as o.after.toList])
def u_ (a:List Nat)(i j:Nat):Bool:=Nat.testBit ((nth a i).getD 0) j
def FN (n:Nat):List Nat->Bool
 | [] =>false|m::r=>bif Nat.beq m n then true else FN n r
def wh:List Nat->List Nat->Bool
 | [],_=>false|a::r,l=>bif FN a l then true else wh r l
def wi (i e:Fp):Bool:=
 wh i.all e.tc||wh i.all e.wt||wh i.rd e.tc||wh i.rd e.wt||wh i.wk e.tc||wh i.tc e.tc||wh i.tc e.wt||wh i.wt e.tc||wh i.wt e.wt
def PH (as:List Nat)(i:Nat)(x:Fp):Nat->List Fp->Bool
 |_,[] =>true|j,y::r=>(Nat.beq i j|| !(wi x y) ||(Nat.blt j i&&u_ as i j) ||(Nat.blt i j&&u_ as j i))&&PH as i x (j+1) r
def Ux (as:List Nat)(b:Nat)(all:List Fp):Nat->List Fp->Bool
 |_,[] =>true|i,x::r=>PH as i x b all&&Ux as b all (i+1) r
def akp (c:List Oper)(b:Nat)(a:List Fp):Bool:=Ux (DL c []) b a b a
def LJ:List Fp->Bool
 | [] =>true|x::r=>x.tc.isEmpty&&x.wt.isEmpty&&LJ r
def va (c:List Oper)(b:Nat)(a:List Fp):Prop:=bif LJ a then True else akp c b a=true
def Nj (as:List Nat)(c:Nat):Nat->List Oper->Bool
 |_,[] =>true|i,_::r=>(Nat.beq i c||(Nat.blt i c&&u_ as c i) ||(Nat.blt c i&&u_ as i c))&&Nj as c (i+1) r
def He (a:List Oper)(c:Nat):Bool:=Nj (DL a []) c 0 a
def eb (ops:List Oper)(t:List (Nat×SV)):Nat->Nat×Bool->Prop
 |0,_=>True
 |n+1,(j,want) =>match (nth ops j).bind (·.dst)with
  |some d=>match lk d t with
   | .v (.bool x) =>x=want| .gd j' b (.v (.bool x)) =>eb ops t n (j',b)/\x=want|_=>True
  |none=>True
def gN (ops:List Oper)(t:List (Nat×SV)):Nat->Nat×Bool->Prop
 |0,_=>True
 |n+1,(j,want) =>match (nth ops j).bind (·.dst)with
  |some d=>match lk d t with
   | .v (.bool x) =>¬x=want| .gd j' b (.v (.bool x)) =>gN ops t n (j',b)\/¬x=want|_=>True
  |none=>True
def zr (ops:List Oper)(t:List (Nat×SV)):Nat->Nat×Bool->Prop
 |0,_=>False
 |n+1,(j,want) =>match (nth ops j).bind (·.dst)with
  |some d=>match lk d t with
   | .v (.bool x) =>¬x=want| .gd j' b (.v (.bool x)) =>zr ops t n (j',b)\/¬x=want|_=>False
  |none=>False
def aca (szt off:Nat)(i:Int):Ob->SV
 | .row k l=>bif Nat.beq szt (ae k)then .ep (cellsOf k (l.getD i.toNat (eT k))) off else .any|_=>.any
def Uy (szt off:Nat)(i j:Int):Ob->SV
 | .atH k l=>bif Nat.beq szt (ae k)then .ep (cellsOf k ((l.getD i.toNat []).getD j.toNat (eT k))) off else .any|_=>.any
def X_ (i:Int):Ob->SV
 | .atH k l=>.rs k (l.getD i.toNat [])|_=>.any
def frz:Ob->SV
 | .row k l=>.rs k l| .mp kk vk l p=>bif noE p then .rm kk vk l else .any| .atH k l=>Po k l| .fz k l=>.rs k l|_=>.any
def V7 (f:SV->SV)(off:Nat):Ob->SV
 | .cells l=>.ep (l.map f) off|_=>.any
def acb (s:Nat)(lo hi:Int):Ob->SV
 | .row k l=>bif Nat.beq s (ae k)then .rs k ((l.take hi.toNat).drop lo.toNat)else .any|_=>.any
def iW (h:List Ob):Nat->SV->SV
 |_,.v x=>.v x|_,.rs k l=>.rs k l|_,.rc k l=>.rs k l|_,.e0=>.e0|_,.rm k k2 l=>.rm k k2 l|_,.os id=>frz (aq h id)|_,.vw s id lo hi=>acb s lo hi (aq h id)|_,.rp s id i off=>bif Nat.beq s 0 then .any else aca s off i (aq h id)|_,.gp s id i j off=>bif Nat.beq s 0 then .any else Uy s off i j (aq h id)|_,.gr id i=>X_ i (aq h id)|n+1,.ptr id off=>V7 (iW h n) off (aq h id)|n+1,.ep l off=>.ep (l.map (iW h n)) off|n+1,.ls s l=>.ls s (l.map (iW h n))|n+1,.agg l=>.agg (l.map (iW h n))|n+1,.tup l=>.tup (l.map (iW h n))
 |n+1,.fn f first caps=>.fn f (first.map (iW h n)) (caps.map (iW h n))
 |_,_=>.any
def V8 (f:SV->List Nat):Ob->List Nat
 | .cells l=>l.flatMap f|_=>[]
def mA (h:List Ob):Nat->SV->List Nat
 |_,.os id=>[id]|_,.rp _ id _ _=>[id]|_,.gp _ id _ _ _=>[id]|_,.gr id _=>[id]|_,.vw _ id _ _=>[id]|n+1,.ptr id _=>id::V8 (mA h n) (aq h id)|n+1,.ep l _=>l.flatMap (mA h n)|n+1,.ls _ l=>l.flatMap (mA h n)|n+1,.agg l=>l.flatMap (mA h n)|n+1,.tup l=>l.flatMap (mA h n)
 |n+1,.fn _ first caps=>first.flatMap (mA h n)++caps.flatMap (mA h n)
 |_,_=>[]
def aug:List (Nat×SV)->List (Nat×SV)
 | [] =>[]|(d,.gd ..)::r=>(d,.any)::aug r|x::r=>x::aug r
def dC:Nat->SV->Bool
 |_,.v _=>true|_,.rs _ _=>true|_,.rm _ _ _=>true|_,.e0=>true|_,.rc _ _=>true|_,.any=>true|n+1,.ep l _=>l.all (dC n)|n+1,.ls _ l=>l.all (dC n)|n+1,.agg l=>l.all (dC n)|n+1,.tup l=>l.all (dC n)|n+1,.fn _ l m=>l.all (dC n)&&m.all (dC n)|_,_=>false
def jQ:Nat->SV->Bool
 |_,.v _=>true|_,.nw k _=>Nat.beq (att k) 0|_,.nm k k2 _=>Nat.beq (att k) 0&&Nat.beq (att k2) 0|_,.ng k _=>Nat.beq (att k) 0|n+1,.agg l=>l.all (jQ n)|n+1,.tup l=>l.all (jQ n)|_,_=>false
def a6:Nat->SV->List Ob
 |_,.nw k l=>[.row k l]|_,.nm k k2 l=>[.mp k k2 l none]|_,.ng k l=>[.atH k l]|n+1,.agg l=>l.flatMap (a6 n)|n+1,.tup l=>l.flatMap (a6 n)|_,_=>[]
def vb (f:Nat->SV->SV)(c:SV->Nat):Nat->List SV->List SV
 |_,[] =>[]|b,x::r=>f b x::vb f c (b+c x) r
def jN:Nat->Nat->SV->SV
 |_,b,.nw _ _=>.os b|_,b,.nm _ _ _=>.os b|_,b,.ng _ _=>.os b
 |n+1,b,.agg l=>.agg (vb (jN n) (λs=>(a6 n s).length) b l)
 |n+1,b,.tup l=>.tup (vb (jN n) (λs=>(a6 n s).length) b l)
 |_,_,s=>s
def fV:Nat->SV->List Nat
 |_,.ptr id _=>[id]|_,.os id=>[id]|_,.rp _ id _ _=>[id]|_,.gr id _=>[id]|_,.gp _ id _ _ _=>[id]|_,.vw _ id _ _=>[id]|n+1,.ep l _=>l.flatMap (fV n)|n+1,.ls _ l=>l.flatMap (fV n)|n+1,.agg l=>l.flatMap (fV n)|n+1,.tup l=>l.flatMap (fV n)|n+1,.fn _ l m=>l.flatMap (fV n)++m.flatMap (fV n)|n+1,.gd _ _ s=>fV n s|_,_=>[]
def Ya:Ob->List Nat
 | .cells l=>l.flatMap (fV 3)|_=>[]
def reach (h:List Ob):Nat->List Nat->List Nat->List Nat
 |0,_,acc=>acc|_+1,[],acc=>acc|n+1,id::todo,acc=>bif FN id acc then reach h n todo acc else reach h n (Ya (aq h id)++todo) (acc++[id])
def Bz (id:Nat):List Nat->Option Nat
 | [] =>none|a::r=>bif Nat.beq a id then some 0 else(Bz id r).map (· +1)
def Cp (f:Nat->SV):Option Nat->SV
 |some k=>f k|none=>.any
def ren (m:Nat->Option Nat):Nat->SV->SV
 |_,.ptr id off=>Cp (λk=>.ptr k off) (m id)
 |_,.os id=>Cp (λk=>.os k) (m id)
 |_,.rp s id i off=>Cp (λk=>.rp s k i off) (m id)
 |_,.gr id i=>Cp (λk=>.gr k i) (m id)
 |_,.gp s id i j off=>Cp (λk=>.gp s k i j off) (m id)
 |_,.vw s id lo hi=>Cp (λk=>.vw s k lo hi) (m id)
 |n+1,.ep l o=>.ep (l.map (ren m n)) o|n+1,.ls s l=>.ls s (l.map (ren m n))|n+1,.agg l=>.agg (l.map (ren m n))|n+1,.tup l=>.tup (l.map (ren m n))|n+1,.fn f l l2=>.fn f (l.map (ren m n)) (l2.map (ren m n))|_,.any=>.any|_,.v x=>.v x|_,.e0=>.e0|_,.rc k l=>.rc k l|_,.rs k l=>.rs k l|_,.rm k k2 l=>.rm k k2 l|_,_=>.any
def V9 (kk vk:Tag)(l:List (kk.T×vk.T)):Option kk.T->Option Nat->Ob
 |p,some k=>.mp kk vk l (some (k,p))|some _,none=>.fwd none|none,none=>.mp kk vk l none
def xT (m:Nat->Option Nat):Ob->Ob
 | .cells l=>.cells (l.map (ren m 3))| .mi mid n left cur=>.mi (mid.bind m) n left cur| .fwd n=>.fwd (n.bind m)| .mp kk vk l (some (i,p)) =>V9 kk vk l p (m i)|o=>o
def inN (a:List Nat)(i:Nat):Option Nat:=Bz i a
def wM (h:List Ob)(a:List Nat):List Ob:=a.map λb=>xT (inN a) (aq h b)
def um (a:List Nat)(b k:Nat):Option Nat:=match nth a k with|some c=>some c|none=>some (b+(k - a.length))
def li (a:List Nat)(b k:Nat):Nat:=match nth a k with|some c=>c|none=>b+(k - a.length)
def ov (ids:List Nat)(b:Nat)(h:List Ob):Nat->List Ob->List Ob
 |_,[] =>h|k,o::r=>ov ids b (cO h (li ids b k) (xT (um ids b) o)) (k+1) r
def Nk (ids:List Nat)(d:Option Nat)(st:St)(K:St->Prop)(Z:Value->St->Prop):Rs->Prop
 | .ret s h=>K (St.put ⟨st.t,ov ids st.h.length st.h 0 h⟩ d (ren (um ids st.h.length) 3 s))| .pan x h=>Z x ⟨aug st.t,ov ids st.h.length st.h 0 h⟩
def V_ (ids:List Nat)(g:Nat×Bool)(d:Option Nat)(st:St)(K:St->Prop)(Z:Value->St->Prop):Rs->Prop
 | .ret s h=>K (St.put ⟨st.t,ov ids st.h.length st.h 0 h⟩ d (.gd g.1 g.2 (ren (um ids st.h.length) 3 s)))| .pan x h=>Z x ⟨aug st.t,ov ids st.h.length st.h 0 h⟩
def Cq (ids:List Nat)(d:Option Nat)(st:St)(K:St->Prop)(Z:Value->St->Prop):Option atB->Prop
 |some c=>c.pre/\∀ r,c.post r->Nk ids d st K Z (c.res r)|none=>False
def Hf (ids:List Nat)(ops:List Oper)(g:Nat×Bool)(d:Option Nat)(st:St)(K:St->Prop)(Z:Value->St->Prop):Option atB->Prop
 |some c=>(eb ops st.t ops.length g->c.pre/\∀ r,c.post r->V_ ids g d st K Z (c.res r))/\(gN ops st.t ops.length g->K (st.put d (.gd g.1 g.2 .any)))|none=>zr ops st.t ops.length g/\K (st.put d (.gd g.1 g.2 .any))
def zt (np:Bool)(ids:List Nat)(d:Option Nat)(st:St)(K:St->Prop)(Z:Value->St->Prop)(c:Option atB):Option Con->Prop
 |some (.det p s) =>bif np||jQ 3 s then(p/\K (St.put ⟨st.t,st.h++a6 3 s⟩ d (jN 3 st.h.length s)))else Cq ids d st K Z c
 |some (.rel _ pre post out) =>pre/\(bif np then ∀ r,post r->K (St.put ⟨st.t,st.h++a6 3 (out r)⟩ d (jN 3 st.h.length (out r)))else False)
 |some (.may ok s x) =>bif np||jQ 3 s then(ok=true->K (St.put ⟨st.t,st.h++a6 3 s⟩ d (jN 3 st.h.length s)))/\(ok=false->Z x ⟨aug st.t,st.h⟩)else False
 |none=>Cq ids d st K Z c
def Hg (np:Bool)(ids:List Nat)(ops:List Oper)(g:Nat×Bool)(d:Option Nat)(st:St)(K:St->Prop)(Z:Value->St->Prop)(c:Option atB):Option Con->Prop
 |some (.det p s) =>(eb ops st.t ops.length g->p)/\(bif(np||jQ 3 s)&&(a6 3 s).isEmpty then K (st.put d (.gd g.1 g.2 s))else False)|none=>Hf ids ops g d st K Z c|_=>False
def SE (id:Nat)(d:Option Nat)(st:St)(K:St->Prop):Option auL->Prop
 |some c=>c.pre/\∀ r,c.post r->K (St.put ⟨st.t,cO st.h id (.ab (c.res r).2)⟩ d (.b (c.res r).1))|none=>False
def PK (id:Nat)(ops:List Oper)(g:Nat×Bool)(d:Option Nat)(st:St)(K:St->Prop):Option auL->Prop
 |some c=>(eb ops st.t ops.length g->c.pre/\∀ r,c.post r->K (St.put ⟨st.t,cO st.h id (.ab (c.res r).2)⟩ d (.gd g.1 g.2 (.b (c.res r).1))))/\(gN ops st.t ops.length g->K (st.put d (.gd g.1 g.2 .any)))|none=>False
def Nl (G:Cons)(args:List SV):Ob->Option auL
 | .ab r=>G.y args r|_=>none
def Yb (id mid n:Nat)(left:List Nat)(d:Option Nat)(st:St)(next:St->Prop):Ob->Prop
 | .mp kk vk l (some (it,none)) =>(it=id/\n=l.length)/\(left=[]->next (st.put d (.tup [.v (.bool false)])))/\
   ∀ j,j∈left->next (St.put ⟨st.t,cO st.h id (.mi (some mid) n (left.erase j) (some j))⟩ d (.tup [.v (.bool true),svT kk (l.getD j (eT kk,eT vk)).1,svT vk (l.getD j (eT kk,eT vk)).2]))
 |_=>False
def acd (id:Nat)(d:Option Nat)(st:St)(next:St->Prop):Ob->Prop
 | .mi (some mid) n left _=>Yb id mid n left d st next (aq st.h mid)|_=>False
def ow (G:Cons)(d:Option Nat)(st:St)(next:St->Prop)(Z:Value->St->Prop):OR->Prop
 | .val s=>next (st.put d s)| .chk c s=>c/\next (st.put d s)| .asm c s=>c->next (st.put d s)| .auh s=>next (st.put d s)| .eff c a ups s=>c/\(a->next (St.put ⟨st.t,bu st.h ups⟩ d s))| .call f args=>zt (args.all (dC 3)) (reach st.h 64 (args.flatMap (fV 3)) []) d st next Z (G.o f (args.map (ren (inN (reach st.h 64 (args.flatMap (fV 3)) [])) 6)) (wM st.h (reach st.h 64 (args.flatMap (fV 3)) []))) (G.p f (args.map (iW st.h 6)))| .yld id args=>bif args.all (dC 3)then SE id d st next (Nl G args (aq st.h id))else False| .nxt id=>acd id d st next (aq st.h id)| .amb p=>∀ b,p b->next (st.put d (.v (.bool b)))| .pan x=>Z x ⟨aug st.t,st.h⟩| .bad=>False
def stepG (G:Cons)(ops:List Oper)(g:Nat×Bool)(d:Option Nat)(st:St)(next:St->Prop)(Z:Value->St->Prop):OR->Prop
 | .val s=>next (st.put d (.gd g.1 g.2 s))| .chk c s=>(eb ops st.t ops.length g->c)/\next (st.put d (.gd g.1 g.2 s))| .asm _ s=>next (st.put d (.gd g.1 g.2 s))| .auh s=>next (st.put d (.gd g.1 g.2 s))| .eff c a ups s=>(eb ops st.t ops.length g->c/\(a->next (St.put ⟨st.t,bu st.h ups⟩ d (.gd g.1 g.2 s))))/\(gN ops st.t ops.length g->next (st.put d (.gd g.1 g.2 .any)))| .call f args=>Hg (args.all (dC 3)) (reach st.h 64 (args.flatMap (fV 3)) []) ops g d st next Z (G.o f (args.map (ren (inN (reach st.h 64 (args.flatMap (fV 3)) [])) 6)) (wM st.h (reach st.h 64 (args.flatMap (fV 3)) []))) (G.p f (args.map (iW st.h 6)))| .yld id args=>bif args.all (dC 3)then PK id ops g d st next (Nl G args (aq st.h id))else False| .bad=>zr ops st.t ops.length g/\next (st.put d (.gd g.1 g.2 .any))| .nxt _=>False| .amb _=>False| .pan _=>False
def kH (ts:Tis)(G:Cons)(ops:List Oper):List Oper->St->(St->Prop)->(Value->St->Prop)->Prop
 | [],st,K,_=>K st
 |o::rest,st,K,Z=>match o.guard with
  |none=>ow G o.dst st (λst'=>kH ts G ops rest st' K Z) Z (opS ⟨ts,ops,none,st,st.h.length⟩ o.op)
  |some g=>stepG G ops g o.dst st (λst'=>kH ts G ops rest st' K Z) Z (opS ⟨ts,ops,some g,st,st.h.length⟩ o.op)
structure Dr where
 c:Prop
 a:Prop
 s:SV
 ups:List Up
 all:List Nat
def drR (np:Bool)(rd:List Nat)(nx:Nat)(p:Prop)(s:SV):List Ob->Option Dr
 | [] =>bif np||jQ 3 s then some ⟨p,True,s,[],rd⟩else none
 | [ob] =>bif np||jQ 3 s then some ⟨p,True,jN 3 nx s,[(nx,ob)],rd⟩else none
 |_=>none
def drC (np:Bool)(rd:List Nat)(nx:Nat):Option Con->Option Dr
 |some (.det p s) =>drR np rd nx p s (a6 3 s)|_=>none
def Yc:Value->Bool
 | .agg _=>false| .tuple _=>false|_=>true
def ace (C:FI)(i:Nat)(rd:List Nat):Option Con->Option Dr
 |some (.det _ (.fn g [] [.ep [.v _] 0])) =>some ⟨∀ x,Yc x=true->C [.v x]=some (.det True (.fn g [] [.ep [.v x] 0])),True,.fn g [] [.ep [.os i] 0],[],rd⟩|_=>none
def drB (C:FI)(rd:List Nat):List SV->Option Dr
 | [.os i] =>ace C i rd (C [.v (.bool true)])|_=>none
def drX (C:FI)(rd:List Nat)(args:List SV):Option Dr->Option Dr
 |some r=>some r|none=>drB C rd args
def lh (G:Cons)(h:List Ob)(nx:Nat):OR->Option Dr
 | .val s=>some ⟨True,True,s,[],[]⟩| .chk c s=>some ⟨c,True,s,[],[]⟩| .asm c s=>some ⟨True,c,s,[],[]⟩| .auh s=>some ⟨True,True,s,[],[]⟩| .eff c a ups s=>some ⟨c,a,s,ups,[]⟩| .call f args=>drX (G.p f) (args.flatMap (mA h 6)) args (drC (args.all (dC 3)) (args.flatMap (mA h 6)) nx (G.p f (args.map (iW h 6))))| .bad=>some ⟨False,True,.any,[],[]⟩|_=>none
def drN (d:Option Nat)(b:St)(e:List Nat->List Up->St->Prop)(r:Dr):Prop:=r.c/\(r.a->e r.all r.ups (St.put ⟨b.t,bu b.h r.ups⟩ d r.s))
def drG (ops:List Oper)(g:Nat×Bool)(d:Option Nat)(st:St)(next:List Nat->List Up->St->Prop)(r:Dr):Prop:=
 bif r.ups.isEmpty then(eb ops st.t ops.length g->r.c)/\next r.all [] (st.put d (.gd g.1 g.2 r.s))
 else ¬ (eb ops st.t ops.length g/\gN ops st.t ops.length g)/\(eb ops st.t ops.length g->r.c/\(r.a->next r.all r.ups (St.put ⟨st.t,bu st.h r.ups⟩ d (.gd g.1 g.2 r.s))))/\(gN ops st.t ops.length g->next r.all [] (st.put d (.gd g.1 g.2 r.s)))
def BA (d:Option Nat)(st:St)(next:List Nat->List Up->St->Prop)(avG:Prop):Option Dr->Prop
 |some r=>drN d st next r|none=>avG
def zu (ops:List Oper)(g:Nat×Bool)(d:Option Nat)(st:St)(next:List Nat->List Up->St->Prop)(avG:Prop):Option Dr->Prop
 |some r=>drG ops g d st next r|none=>avG
def kK (ts:Tis)(G:Cons)(ops:List Oper)(K:St->Prop)(Z:Value->St->Prop):List Oper->(i b:Nat)->List Fp->St->Prop
 | [],_,b,fps,st=>va ops b fps/\K st
 |o::rest,i,b,fps,st=>match o.guard with
  |none=>BA o.dst st (λall ups st'=>kK ts G ops K Z rest (i+1) b (fps++[fpU o.op (fpO ⟨ts,ops,none,st,st.h.length⟩ o.op) all ups]) st')
    (va ops b fps/\He ops i=true/\ow G o.dst st (λst'=>kK ts G ops K Z rest (i+1) (i+1) [] st') Z (opS ⟨ts,ops,none,st,st.h.length⟩ o.op))
    (lh G st.h st.h.length (opS ⟨ts,ops,none,st,st.h.length⟩ o.op))
  |some g=>zu ops g o.dst st (λall ups st'=>kK ts G ops K Z rest (i+1) b (fps++[fpU o.op (fpO ⟨ts,ops,some g,st,st.h.length⟩ o.op) all ups]) st')
    (va ops b fps/\He ops i=true/\stepG G ops g o.dst st (λst'=>kK ts G ops K Z rest (i+1) (i+1) [] st') Z (opS ⟨ts,ops,some g,st,st.h.length⟩ o.op))
    (lh G st.h st.h.length (opS ⟨ts,ops,some g,st,st.h.length⟩ o.op))
def akq (id:Nat):Ob->SV
 | .fwd (some n) =>.os n|_=>.os id
def Yd (h:List Ob):SV->SV
 | .os id=>akq id (aq h id)|s=>s
def SF (h:List Ob):List (Nat×SV)->List (Nat×SV)
 | [] =>[]|(d,s)::r=>(d,Yd h s)::SF h r
def Uz:Ob->Bool
 | .fwd (some _) =>true|_=>false
def qB:List Ob->Bool
 | [] =>false
 |o::r=>Uz o||qB r
def afx:Ob->Ob
 | .fwd _=>.dead|o=>o
def Bb:List Ob->List Ob
 | [] =>[]|o::r=>afx o::Bb r
def auN (a:St):St:=bif qB a.h then ⟨SF a.h a.t,Bb a.h⟩else a
def Cr (b:List Oper)(a:St):St:=auN (bif b.any (·.guard.isSome)then ⟨aug a.t,a.h⟩else a)
inductive Ex where
 |normal
 |exit (id:Nat)
 |ret
 |pan (x:Value)
def Ex.then (K:St->Prop)(Q:Ex->St->Prop):Ex->St->Prop
 | .normal,st=>K st|e,st=>Q e st
def Ex.block (id:Nat)(Q:Ex->St->Prop):Ex->St->Prop
 | .exit j,st=>bif Nat.beq j id then Q .normal st else Q (.exit j) st|e,st=>Q e st
def Cs (x y:Prop):SV->Prop
 | .v (.bool b) =>(b=true->x)/\(b=false->y)|_=>False
structure at8 where
 α:Type
 pre:Prop
 post:α->Prop
 ex:α->Ex
 out:α->St
abbrev yS:=Nat->St->Option at8
def un (Q:Ex->St->Prop):Option at8->Prop
 |some c=>c.pre/\∀ r,c.post r->Q (c.ex r) (c.out r)|none=>False
def Ye:Operand->Nat
 | .tmp n=>n+1000000|_=>0
def auQ (t:List (Nat×SV)):List (Nat×SV)->Prop
 | [] =>True|(n,s)::r=>lk n t=s/\auQ t r
def inJ (d:St):Ex->St->Prop
 | .normal,st=>st.h=d.h/\auQ st.t d.t|_,_=>False
def Yf (x y:(Ex->St->Prop)->Prop)(Q:Ex->St->Prop)(s:SV)(c:at8):Prop:=
 Cs (x λe st=>∃ r,c.post r/\inJ (c.out r) e st) (y λe st=>∃ r,c.post r/\inJ (c.out r) e st) s/\∀ r,c.post r->Q .normal (c.out r)
def Hh (x y:(Ex->St->Prop)->Prop)(Q:Ex->St->Prop)(s:SV):Option at8->Prop
 |none=>Cs (x Q) (y Q) s|some c=>Yf x y Q s c
def JC (d:St):at8:=⟨Unit,True,λ_=>True,λ_=>.normal,λ_=>d⟩
def akr (c:at8)(Q:Ex->St->Prop):Ex->St->Prop
 | .normal,st=>∃ r,c.post r/\inJ (c.out r) .normal st|e,st=>Q e st
def inC (d:St)(Q:Ex->St->Prop):Ex->St->Prop
 | .normal,st=>inJ d .normal st|e,st=>Q e st
def awz (x:(Ex->St->Prop)->Prop)(Q:Ex->St->Prop)(c:at8):Prop:=x (akr c Q)/\∀ r,c.post r->Q .normal (c.out r)
def Hi (x:(Ex->St->Prop)->Prop)(Q:Ex->St->Prop):Option at8->Prop
 |none=>x Q|some c=>awz x Q c
def E7 (ts:Tis)(G:Cons)(ops:Array Oper)(d:Bool)(st:St)(Q:Ex->St->Prop):Prop:=
 bif d then kK ts G ops.toList (λst'=>Q .normal (Cr ops.toList st')) (λx st'=>Q (.pan x) st') ops.toList 0 0 [] st
   else kH ts G ops.toList ops.toList st (λst'=>Q .normal (Cr ops.toList st')) (λx st'=>Q (.pan x) st')
def exec (ts:Tis)(G:Cons)(L:yS):Code->St->(Ex->St->Prop)->Prop
 | .skip,st,Q=>Q .normal st| .region id ops d,st,Q=>Hi (E7 ts G ops d st) Q (L (id+2000000) st)
 | .seq a b,st,Q=>exec ts G L a st (Ex.then (λst'=>exec ts G L b st' Q) Q)
 | .cond c x y,st,Q=>Hh (exec ts G L x st) (exec ts G L y st) Q (raw st.t c) (L (Ye c) st)| .block id (.loop _),st,Q=>un Q (L id st)| .block id (.rangeFunc ..),st,Q=>un Q (L id st)| .block id c,st,Q=>exec ts G L c st (Ex.block id Q)| .exit id,st,Q=>Q (.exit id) st| .ret,st,Q=>Q .ret st| .scope c,st,Q=>exec ts G L c st Q| .label _,st,Q=>Q .normal st|_,_,_=>False
def acf:OR->Option SV
 | .val s=>some s|_=>none
def Wa (ts:Tis)(st:St):ResultVar->Option SV
 | .tmp n=>some (lk n st.t)
 | .cell q t=>acf (aR ts t λti=>uk ti st.h (lk q st.t))
def PM:Option SV->Option (List SV)->Option (List SV)
 |some s,some l=>some (s::l)|_,_=>none
def t7 (ts:Tis)(st:St):List ResultVar->Option (List SV)
 | [] =>some []|x::r=>PM (Wa ts st x) (t7 ts st r)
def v_:Option (List SV)->Option SV
 |some [s] =>some s|some l=>some (.tup l)|none=>none
def aks (h:List Ob):Option SV->Option SV
 |some s=>some (iW h 4 s)|none=>none
def Hj (b:List ResultVar)(c:Tis)(a:St):Option SV:=aks a.h (v_ (t7 c a b))
def zv:Ob->SV
 | .row k l=>.nw k l| .mp k k2 l none=>.nm k k2 l| .atH k l=>.ng k l|_=>.any
def Bc (h:List Ob):Nat->SV->SV
 |_,.os id=>zv (aq h id)|n+1,.agg l=>.agg (l.map (Bc h n))|n+1,.tup l=>.tup (l.map (Bc h n))|_,.v x=>.v x|_,.rs k l=>.rs k l|_,.rm k k2 l=>.rm k k2 l|_,.e0=>.e0|n,s=>bif dC n s then s else .any
def xU:Nat->SV->List Nat
 |_,.os id=>[id]|n+1,.agg l=>l.flatMap (xU n)|n+1,.tup l=>l.flatMap (xU n)|_,_=>[]
def uniq:List Nat->Bool
 | [] =>true|a::r=>!(FN a r)&&uniq r
def E8 (h:List Ob)(s:SV):Option SV:=bif uniq (xU 3 s)&&(xU 3 s).all (λi=>Nat.blt i h.length)then some (Bc h 3 s)else none
def aed (h:List Ob):Option SV->Option SV
 |some s=>E8 h s|none=>none
def Wb (b:List ResultVar)(c:Tis)(a:St):Option SV:=aed a.h (v_ (t7 c a b))
def Hk (m:Bool)(a:List ResultVar)(b:Tis)(c:St):Option SV:=bif m then Wb a b c else Hj a b c
def GA (ops:List Oper)(i:Nat)(o:Oper):Bool:=
 match o.guard with
 |none=>true
 |some (j,_) =>Nat.blt j i&&(match (nth ops j).bind (·.dst)with
  |some d=>(List.range ops.length).all λk=>Nat.beq k j||(match (nth ops k).bind (·.dst)with|some e=>!(Nat.beq d e) |none=>true)
  |none=>false)
def Yg (N:Nat)(ops:List Oper):Bool:=
 (List.range ops.length).all λi=>match nth ops i with
  |some o=>(match o.dst with|some d=>Nat.blt d N|none=>true)&&GA ops i o
  |none=>true
def rM (o:Oper)(k:Nat):Bool:=o.after.toList.any λe=>Nat.beq e.on k&&Region.binds .any e
def SG (ops:Array Oper):Bool:=
 (List.range ops.size).all λi=>match nth ops.toList i with
  |some o=>
   (o.after.toList.all λe=>!(Region.binds .any e) ||Nat.blt e.on i)&&
   (List.range ops.size).all λk=>match nth ops.toList k with
    |some q=>match q.dst with
     |some d=>(Nat.beq k i|| !(o.dst==some d))&&(!((o.looksAt ops).contains d) ||Nat.beq k i||(Nat.blt k i&&rM o k) ||(Nat.blt i k&&rM q i))|none=>true
    |none=>true
  |none=>true
def db (N:Nat):Code->Bool
 | .region _ ops d=>Yg N ops.toList&&(!d||SG ops)| .seq a b=>db N a&&db N b| .cond _ a b=>db N a&&db N b| .block _ c=>db N c| .loop c=>db N c| .scope c=>db N c| .rangeFunc _ _ a b=>db N a&&db N b|_=>true
def ox:Nat->Nat->SV->Bool
 |_,_,.v _=>true|_,_,.rs _ _=>true|_,_,.rm _ _ _=>true|_,_,.any=>true|_,_,.e0=>true|_,_,.rc _ _=>true|_,n,.ptr id _=>Nat.blt id n|_,n,.os id=>Nat.blt id n|_,n,.rp _ id _ _=>Nat.blt id n|_,n,.gr id _=>Nat.blt id n|_,n,.gp _ id _ _ _=>Nat.blt id n|_,n,.vw _ id _ _=>Nat.blt id n|f+1,n,.ep l _=>l.all (ox f n)|f+1,n,.ls _ l=>l.all (ox f n)|f+1,n,.agg l=>l.all (ox f n)|f+1,n,.tup l=>l.all (ox f n)|f+1,n,.fn _ l m=>l.all (ox f n)&&m.all (ox f n)|_,_,_=>false
def Yh (m:Nat->Option Nat)(n:Nat)(t:List (Nat×SV)):List (Nat×SV)->Prop
 | [] =>True|(i,s)::r=>(lk i t=ren m 5 s/\ox 5 n s=true)/\Yh m n t r
def dT:Ob->Bool
 | .dead=>true|_=>false
def yT (n:Nat):Ob->Bool
 | .cells l=>l.all (ox 3 n)| .mi (some i) _ _ _=>Nat.blt i n| .fwd (some i) =>Nat.blt i n| .mp _ _ _ (some (i,_)) =>Nat.blt i n|_=>true
def unp {κ:Type}:Option (Nat×Option κ)->Option (Nat×Option κ)
 |some (_,none) =>none|p=>p
def UA:SV->Bool
 | .any=>true|_=>false
def wkL:List SV->List SV->List SV
 |a::r,x::s=>(bif UA a then .any else x)::wkL r s|_,s=>s
def Hl:Ob->Ob->Ob
 | .mp _ _ _ none,.mp kk vk l p=>.mp kk vk l (unp p)| .cells a,.cells l=>.cells (wkL a l)|_,o=>o
def Nm (m:Nat->Option Nat)(n:Nat)(h:List Ob)(j:Nat)(o:Ob):Prop:=bif dT o then True else Hl o (aq h j)=xT m o/\yT n o=true
def Kr (m:Nat->Option Nat)(n:Nat)(h:List Ob):List Nat->List Ob->Prop
 | [],[] =>True|j::js,o::r=>Nm m n h j o/\Kr m n h js r|_,_=>False
def nX:List Nat->List Ob->List Nat
 |j::js,o::r=>bif dT o then nX js r else j::nX js r|_,_=>[]
def DN:Nat->List Nat->Nat->Bool
 |_,[],_=>true|i,j::js,n=>(Nat.beq i j||Nat.ble n i)&&DN (i+1) js n
def Hm (a:List Nat)(i:Nat):Option Nat:=nth a i
def Sub (js:List Nat)(n0:Nat)(st st2:St):Prop:=
 (uniq (nX js st2.h)=true/\DN 0 js n0=true/\js.all (λj=>Nat.blt j st.h.length)=true)/\Yh (Hm js) st2.h.length st.t st2.t/\Kr (Hm js) st2.h.length st.h js st2.h
def xV {σ:Type}(D:σ->St)(I:σ->Prop)(m:σ->Nat)(n0:Nat)(x:σ)(id:Nat)(Q:Ex->St->Prop):Ex->St->Prop
 | .normal,st=>∃ y js,I y/\m y<m x/\n0<=(D y).h.length/\Sub js n0 st (D y)| .exit j,st=>bif Nat.beq j id then Q .normal st else Q (.exit j) st| .ret,st=>Q .ret st| .pan x,st=>Q (.pan x) st
def pZ:Nat->List SV->List (Nat×SV)
 |_,[] =>[]|n,s::r=>(n,s)::pZ (n+1) r
def jw (post:SV->Prop):Option SV->Prop
 |some s=>post s|none=>False
def Hn (m:Bool)(rs:List ResultVar)(ts:Tis)(post:SV->Prop)(pp:Value->Prop):Ex->St->Prop
 | .exit _,_=>False| .normal,st=>jw post (Hk m rs ts st)| .ret,st=>jw post (Hk m rs ts st)| .pan x,_=>pp x
def Ho (n0:Nat)(C:atB):Option SV->List Ob->Prop
 |some s,h=>∃ r s' h' js,C.post r/\C.res r=.ret s' h'/\n0<=h'.length/\Sub js n0 ⟨[(0,s)],h⟩ ⟨[(0,s')],h'⟩|none,_=>False
def PN (n0:Nat)(rs:List ResultVar)(ts:Tis)(C:atB):Ex->St->Prop
 | .exit _,_=>False| .normal,st=>Ho n0 C (v_ (t7 ts st rs)) st.h| .ret,st=>Ho n0 C (v_ (t7 ts st rs)) st.h| .pan x,st=>∃ r h' js,C.post r/\C.res r=.pan x h'/\n0<=h'.length/\Sub js n0 ⟨[],st.h⟩ ⟨[],h'⟩
structure Hd where
 p:Option Nat:=none
 v:Value:=undef
 vs:List Value:=[]
 bs:List Nat:=[]
abbrev Own:=Nat->Option Hd
def dn (F:Nat->Prop)(a:Own)(b:Nat):Prop:=F b\/∃ id hd,a id=some hd/\b∈hd.bs
def dI:Own:=λ_=>none
def Hd.like (a b:Hd):Prop:=b.p=a.p/\b.v=a.v/\b.vs=a.vs
theorem Hd.like.refl (a:Hd):a.like a:=⟨rfl,rfl,rfl⟩
theorem Hd.like.trans {a b c:Hd}(h:a.like b)(h':b.like c):a.like c:=⟨h'.1.trans h.1,h'.2.1.trans h.2.1,h'.2.2.trans h.2.2⟩
def rR:Value->Bool
 | .agg _=>false| .tuple _=>false|_=>true
variable {v:Value}
def Hq(h:rR v=true):v.cells= #[v]:=by cases v <;>first|rfl|simp[rR]at h
theorem nY(h:rR v=true):v.oneCell'=true:=by cases v <;>first|rfl|simp[rR]at h
def afy (x:Value)(e:Nat)(c d:Int)(a:Option Addr):Prop:=d.toNat<=c.toNat\/∃ b o n cap,x=.slice (some ⟨b,o,none⟩) n cap/\d.toNat<=n/\a=some ⟨b,o+c.toNat*e,none⟩
inductive Rel (F:Nat->Prop)(own:Own)(w:World):SV->Value->Prop where
 |any (v:Value):Rel F own w .any v
 |v (x:Value):Rel F own w (.v x) x
 |ptr {id off b:Nat} {hd:Hd}:own id=some hd->hd.p=some b->Rel F own w (.ptr id off) (.pointer (some ⟨b,off,none⟩))
 |os {id:Nat} {hd:Hd}:own id=some hd->rR hd.v=true->Rel F own w (.os id) hd.v
 |e0 {a:Option Addr}:Rel F own w .e0 (.slice a 0 0)
 |rc {k:Tag} {l:List k.T} {a:Option Addr}:Rel F own w (.rs k l) (.slice a l.length l.length)->Rel F own w (.rc k l) (.slice a l.length l.length)
 |rp {sz id off n cap b o:Nat} {i:Int} {hd:Hd}:own id=some hd->hd.v=.slice (some ⟨b,o,none⟩) n cap->i.toNat<n->Rel F own w (.rp sz id i off) (.pointer (some ⟨b,o+i.toNat*sz+off,none⟩))
 |gr {id:Nat} {i:Int} {v:Value} {hd:Hd}:own id=some hd->hd.vs[i.toNat]? =some v->rR v=true->Rel F own w (.gr id i) v
 |gp {sz id off n cap b o:Nat} {i j:Int} {hd:Hd}:own id=some hd->hd.vs[i.toNat]? =some (.slice (some ⟨b,o,none⟩) n cap)->j.toNat<n->Rel F own w (.gp sz id i j off) (.pointer (some ⟨b,o+j.toNat*sz+off,none⟩))
 |vw {sz id cap:Nat} {lo hi:Int} {hd:Hd} {a:Option Addr}:own id=some hd->afy hd.v sz lo hi a->hi.toNat - lo.toNat<=cap->Rel F own w (.vw sz id lo hi) (.slice a (hi.toNat - lo.toNat) cap)
 |ep {cells:List SV} {off b o:Nat} (c:Nat->Value):
   (∀ j s,cells[j]? =some s->¬dn F own b/\w.cell? ⟨b,o+j,none⟩=some (c j))->(∀ j s,cells[j]? =some s->Rel F own w s (c j))->
   Rel F own w (.ep cells off) (.pointer (some ⟨b,o+off,none⟩))
 |rs {k:Tag} {l:List k.T} {b o cap:Nat} (c:Nat->Nat->Value):l.length<=cap->l.length<=aD->
   (∀ (i:Nat) (x:k.T),l[i]? =some x->∀ (j:Nat) (s:SV),(cellsOf k x)[j]? =some s->¬dn F own b/\w.cell? ⟨b,o+i*ae k+j,none⟩=some (c i j))->
   (∀ (i:Nat) (x:k.T),l[i]? =some x->∀ (j:Nat) (s:SV),(cellsOf k x)[j]? =some s->Rel F own w s (c i j))->
   Rel F own w (.rs k l) (.slice (some ⟨b,o,none⟩) l.length cap)
 |rs0 {k:Tag} {a:Option Addr} {cap:Nat}:Rel F own w (.rs k []) (.slice a 0 cap)
 |ls {z n:Nat} {l:List SV} {b o cap:Nat} (c:Nat->Value):n*z=l.length->n<=cap->
   (∀ j s,l[j]? =some s->¬dn F own b/\w.cell? ⟨b,o+j,none⟩=some (c j))->(∀ j s,l[j]? =some s->Rel F own w s (c j))->
   Rel F own w (.ls z l) (.slice (some ⟨b,o,none⟩) n cap)
 |rm {kk vk:Tag} {l:List (kk.T×vk.T)} {b:Nat} (ck cv:Nat->Value) (es:Array MapEntry) (clock:Nat):¬dn F own b->w.heap[b]? =some (.map es clock)->es.size=l.length->
   (∀ (i:Nat) (x:kk.T×vk.T),l[i]? =some x->∃ n,es[i]? =some ⟨ck i,cv i,n⟩)->
   (∀ (i:Nat) (x:kk.T×vk.T),l[i]? =some x->Rel F own w (svT kk x.1) (ck i))->(∀ (i:Nat) (x:kk.T×vk.T),l[i]? =some x->Rel F own w (svT vk x.2) (cv i))->
   Rel F own w (.rm kk vk l) (.map (some b))
 |rm0 {kk vk:Tag}:Rel F own w (.rm kk vk []) (.map none)
 |agg {l:List SV} {vs:Array Value}:vs.size=l.length->(∀ (j:Nat) (s:SV),l[j]? =some s->Rel F own w s (vs.getD j undef))->Rel F own w (.agg l) (.agg vs)
 |tup {l:List SV} {vs:Array Value}:vs.size=l.length->(∀ (j:Nat) (s:SV),l[j]? =some s->Rel F own w s (vs.getD j undef))->Rel F own w (.tup l) (.tuple vs)
 |fn {f:FuncId} {first caps:List SV} {us vs:Array Value}:us.size=first.length->vs.size=caps.length->(∀ (j:Nat) (s:SV),first[j]? =some s->Rel F own w s (us.getD j undef))->
   (∀ (j:Nat) (s:SV),caps[j]? =some s->Rel F own w s (vs.getD j undef))->Rel F own w (.fn f first caps) (.func (.func f) us vs)
structure at4 (F:Nat->Prop)(own:Own)(w:World)(l5:Own)(w':World):Prop where
 ids:∀ (id:Nat) (hd:Hd),own id=some hd->∃ hd',l5 id=some hd'/\hd.like hd'
 keep:∀ b,b<w.heap.size->¬dn F own b->¬dn F l5 b/\w'.heap[b]? =w.heap[b]?
 size:w.heap.size<=w'.heap.size
structure Bs where
 w:World
 own:Own:=dI
 ds:List Deferred:=[]
def Old (B:Bs)(b:Nat):Prop:=b<B.w.heap.size/\¬ ∃ id hd,B.own id=some hd/\b∈hd.bs
structure Fr (B:Bs)(own:Own)(w:World):Prop where
 ids:∀ (id:Nat) (hd:Hd),B.own id=some hd->∃ hd',own id=some hd'/\hd.like hd'
 base:∀ (id:Nat) (hd:Hd) (b:Nat),own id=some hd->b∈hd.bs->¬Old B b
 os:w.os=B.w.os
 tape:w.tape=B.w.tape
 output:w.output=B.w.output
 size:B.w.heap.size<=w.heap.size
 block:∀ k,Old B k->w.heap[k]? =B.w.heap[k]?
theorem Fr.refl (B:Bs):Fr B B.own B.w:=⟨λ_ hd h=>⟨hd,h,.refl _⟩,λid hd _ h E O=>O.2 ⟨id,hd,h,E⟩,rfl,rfl,rfl,aqb _,λ_ _=>rfl⟩
variable {B:Bs}{w w':World}
theorem Fr.below{own:Own}(h:Fr B own w)(E:Below w.heap.size w w'):Fr B own w':=
 ⟨h.ids,h.base,E.os.trans h.os,E.tape.trans h.tape,E.output.trans h.output,aqp h.size E.size,λk O=>(E.block k (aqi O.1 h.size)).trans (h.block k O)⟩
theorem Fr.drew{own:Own}(h:Fr B own w):Fr B own { w with drawn:=w.drawn+1}:=⟨h.ids,h.base,h.os,h.tape,h.output,h.size,h.block⟩
variable {l5:Own}
theorem Fr.trans{own:Own}(h:Fr B own w)(h':Fr { w:=w,own:=own} l5 w'):Fr B l5 w':=by
 have E:∀ k,Old B k->Old { w:=w,own:=own} k:=λk O=>⟨aqi O.1 h.size,λ⟨id,hd,X,V⟩ =>h.base id hd k X V O⟩;refine⟨λid hd hi=>?_,λid hd b hi V W=>h'.base id hd b hi V (E b W),h'.os.trans h.os,h'.tape.trans h.tape,h'.output.trans h.output,aqp h.size h'.size,
  λk O=>(h'.block k (E k O)).trans (h.block k O)⟩
 have⟨hd1,e1,l1⟩:=h.ids id hd hi;have⟨hd2,e2,l2⟩:=h'.ids id hd1 e1;exact⟨hd2,e2,l1.trans l2⟩
variable {F:Nat->Prop}
theorem Fr.aub{own:Own}(h:Fr { w:=w,own:=own} l5 w'):at4 F own w l5 w':=
 ⟨h.ids,λb X hn=>by
  have V:Old { w:=w,own:=own} b:=⟨X,λ⟨id,hd,O,E⟩ =>hn (.inr ⟨id,hd,O,E⟩)⟩;refine⟨?_,h.block b V⟩;rintro (W| ⟨id,hd,O,E⟩);exact hn (.inl W);exact h.base id hd b O E V,h.size⟩
theorem Fr.auk{own:Own}(ids:∀ (id:Nat) (hd:Hd),own id=some hd->∃ hd',l5 id=some hd'/\hd.like hd')
  (bs:∀ id hd b,l5 id=some hd->b∈hd.bs->(∃ E hd',own E=some hd'/\b∈hd'.bs)\/w.heap.size<=b)
  (block:∀ b,b<w.heap.size->(¬ ∃ id hd,own id=some hd/\b∈hd.bs)->w'.heap[b]? =w.heap[b]?) (size:w.heap.size<=w'.heap.size)
  (os:w'.os=w.os) (tape:w'.tape=w.tape) (output:w'.output=w.output):Fr { w:=w,own:=own} l5 w':=
 ⟨ids,λid hd b h1 h2 O=>by
  rcases bs id hd b h1 h2 with h|h;exact O.2 h;have:=O.1;grind,os,tape,output,size,λk V=>block k V.1 V.2⟩
def Nn{b o:Nat}(h:w.cell? ⟨b,o,none⟩=some v):b<w.heap.size:=World.block_lt_of_cell? w _ h
theorem w7{b:Nat}(h:w'.heap[b]? =w.heap[b]?)(o:Nat):w'.cell? ⟨b,o,none⟩=w.cell? ⟨b,o,none⟩:=by
 grind [World.cell?]
theorem wj{b:Nat}{o:Obj}(h:w.heap[b]? =some o):b<w.heap.size:=by
 grind
structure atS (F:Nat->Prop)(own:Own)(w:World)(F':Nat->Prop)(l5:Own)(w':World):Prop where
 ids:∀ (id:Nat) (hd:Hd),own id=some hd->∃ hd',l5 id=some hd'/\hd.like hd'
 keep:∀ b,b<w.heap.size->¬dn F own b->¬dn F' l5 b/\w'.heap[b]? =w.heap[b]?
theorem at4.at7{own:Own}(g:at4 F own w l5 w'):atS F own w F l5 w':=⟨g.ids,g.keep⟩
theorem Rel.carry{F':Nat->Prop}{own:Own}(g:atS F own w F' l5 w'){s:SV}(h:Rel F own w s v):Rel F' l5 w' s v:=by
 induction h with
 |any v=>exact .any v|v x=>exact .v x|ptr h1 h2=>have⟨hd',e,l⟩:=g.ids _ _ h1;exact .ptr e (l.1.trans h2)|os h1 h2=>have⟨hd',e,l⟩:=g.ids _ _ h1;rw[<-l.2.1]at h2 |-;exact .os e h2|e0=>exact .e0|rc _ O=>exact .rc O|rp h1 h2 V=>have⟨hd',e,l⟩:=g.ids _ _ h1;exact .rp e (l.2.1.trans h2) V
 |gr h1 h2 V=>have⟨hd',e,l⟩:=g.ids _ _ h1;exact .gr e (by rw[l.2.2];exact h2) V
 |gp h1 h2 V=>have⟨hd',e,l⟩:=g.ids _ _ h1;exact .gp e (by rw[l.2.2];exact h2) V
 |vw h1 h2 V=>have⟨hd',e,l⟩:=g.ids _ _ h1;exact .vw e (by rw[l.2.1];exact h2) V
 |ep c h1 _ O=>
  refine .ep c (λj s hj=>?_) O;have⟨hn,hc⟩:=h1 j s hj;have⟨hn',hk⟩:=g.keep _ (Nn hc) hn;grind [w7]
 |rs c E Y h1 _ O=>
  refine .rs c E Y (λi x hi j s hj=>?_) O;have⟨hn,hc⟩:=h1 i x hi j s hj;have⟨hn',hk⟩:=g.keep _ (Nn hc) hn;grind [w7]
 |rs0=>exact .rs0
 |ls c hz E h1 _ O=>
  refine .ls c hz E (λj s hj=>?_) O;have⟨hn,hc⟩:=h1 j s hj;have⟨hn',hk⟩:=g.keep _ (Nn hc) hn;grind [w7]
 |rm ck cv es clock E h1 h2 V _ _ W X=>
  have⟨hn',hk⟩:=g.keep _ (wj h1) E;exact .rm ck cv es clock hn' XN h2 V W X
 |rm0=>exact .rm0|agg E _ O=>exact .agg E O|tup E _ O=>exact .tup E O|fn E Y _ _ W X=>exact .fn E Y W X
theorem Rel.mono{own:Own}(g:at4 F own w l5 w'){s:SV}(h:Rel F own w s v):Rel F l5 w' s v:=h.carry g.at7
theorem at4.refl (F:Nat->Prop)(own:Own)(w:World):at4 F own w own w:=⟨λ_ hd h=>⟨hd,h,.refl _⟩,λ_ _ h=>⟨h,rfl⟩,aqb _⟩
theorem tx (w:World)(o:Obj)(b:Nat)(h:b<w.heap.size):(w.alloc o).heap[b]? =w.heap[b]?:=Below.heap_alloc w o b h
theorem lW (w:World)(o:Obj):(w.alloc o).heap[w.heap.size]? =some o:=by show(w.heap.push o)[w.heap.size]? =_;simp
theorem SH (w:World)(o:Obj):(w.alloc o).heap.size=w.heap.size+1:=by simp_all
theorem at4.below(F:Nat->Prop)(own:Own)(h:Below w.heap.size w w'):at4 F own w own w':=
 ⟨λ_ hd h=>⟨hd,h,.refl _⟩,λb E hn=>⟨hn,h.block b E⟩,h.size⟩
def tA (w:World)(o:Obj):Below w.heap.size w (w.alloc o):=(Below.refl _ _).alloc (aqb _) o
theorem gW {α:Type}:∀ (l:List α) (i:Nat),nth l i=l[i]?
 | [],i=>by simp[nth]
 |x::r,0=>by simp[nth]
 |x::r,i+1=>by simp[nth,gW r i]
theorem tB:∀ l:List SV,sz l=l.length
 | [] =>rfl
 |x::r=>by simp[sz,tB r]
theorem No:∀ (n:Nat) (l:List SV),cut n l=l.take n
 |0,l=>by simp[cut]
 |n+1,[] =>by simp[cut]
 |n+1,x::r=>by simp[cut,No n r]
theorem GB:∀ (n:Nat) (l:List SV),Pv n l=l.drop n
 |0,l=>by simp[Pv]
 |n+1,[] =>by simp[Pv]
 |n+1,x::r=>by simp[Pv,GB n r]
theorem Ct:∀ (l:List SV) (i:Nat) (s:SV),G5 l i s=l.set i s
 | [],i,s=>by simp[G5]
 |x::r,0,s=>by simp[G5]
 |x::r,i+1,s=>by simp[G5,Ct r i s]
theorem pa:∀ (vs cells:List SV) (off:Nat),(il cells off vs).length=cells.length
 | [],cells,off=>rfl
 |x::xs,cells,off=>by simp[il,pa xs,Ct]
theorem qC:∀ (vs cells:List SV) (off:Nat),off+vs.length<=cells.length->∀ j,(il cells off vs)[j]? =if off<=j/\j<off+vs.length then vs[j - off]? else cells[j]?
 | [],cells,off,_,j=>by simp_all [il,if_neg]
 |x::xs,cells,off,h,j=>by
  simp[aqc]at h;rw[il,qC xs _ _ (by simp[Ct];omega),Ct];grind
theorem xW:∀ (h:List Ob) (id:Nat),aq h id=(h[id]?).getD .dead
 | [],id=>by simp[aq]
 |o::r,0=>by simp[aq]
 |o::r,n+1=>by simp[aq,xW r n]
theorem dM:∀ (h:List Ob) (id:Nat) (x:Ob) (j:Nat),aq (cO h id x) j=if id=j then x else aq h j
 | [],0,x,j=>by cases j <;>simp[cO,aq]
 | [],n+1,x,j=>by
  cases j with
  |zero=>simp[cO,aq]|succ j=>simp only[cO,aq,dM [] n x j];by_cases h:n=j <;>simp[h]
 |o::r,0,x,j=>by cases j <;>simp[cO,aq]
 |o::r,n+1,x,j=>by
  cases j with
  |zero=>simp[cO,aq]|succ j=>simp only[cO,aq,dM r n x j];by_cases h:n=j <;>simp[h]
theorem cJ:∀ (h:List Ob) (id:Nat) (x:Ob),(cO h id x).length=if id<h.length then h.length else id+1
 | [],0,x=>by simp[cO]
 | [],n+1,x=>by simp[cO,cJ [] n x]
 |o::r,0,x=>by simp[cO]
 |o::r,n+1,x=>by simp[cO,aqc,cJ r n x];by_cases h:n<r.length <;>simp[h] <;>omega
theorem ve {h:List Ob}{id:Nat}(hi:h.length<=id):aq h id=.dead:=by rw[xW,List.getElem?_eq_none hi];rfl
theorem vg (h l:List Ob)(id:Nat):aq (h++l) id=if id<h.length then aq h id else aq l (id - h.length):=by
 grind [xW]
theorem Hr{own:Own}{s:SV}{l:List SV}(h:Rel F own w s v)(E:rI s=some l):
  v.cells.size=l.length/\∀ (j:Nat) (x:SV),l[j]? =some x->Rel F own w x (v.cells.getD j undef):=by
 have one:∀ {s:SV} {v:Value},Rel F own w s v->v.cells= #[v]->rI s=some [s]->rI s=some l->v.cells.size=l.length/\∀ (j:Nat) (x:SV),l[j]? =some x->Rel F own w x (v.cells.getD j undef):=by
  intro s v h hc h1 h2;rw[h1]at h2;simp[aqd]at h2;subst h2;rw[hc];refine⟨rfl,λj x Y=>?_⟩;cases j <;>simp_all
 cases h with
 |any=>simp[rI]at E
 |v=>
  cases v <;>first|exact one (.v _) rfl rfl E|simp[rI]at E
  subst E;refine⟨by simp[Value.cells],λj y Y=>?_⟩;simp at Y;obtain⟨z,X,rfl⟩:=Y;simp[Value.cells,X];exact .v _
 |ptr h1 h2=>exact one (.ptr h1 h2) rfl rfl E|os h1 h2=>exact one (.os h1 h2) (Hq h2) rfl E|e0=>exact one .e0 rfl rfl E|rc h=>exact one (.rc h) rfl rfl E|rp h1 h2 O=>exact one (.rp h1 h2 O) rfl rfl E|gr h1 h2 O=>exact one (.gr h1 h2 O) (Hq O) rfl E|gp h1 h2 O=>exact one (.gp h1 h2 O) rfl rfl E|vw h1 h2 O=>exact one (.vw h1 h2 O) rfl rfl E|ep c h1 h2=>exact one (.ep c h1 h2) rfl rfl E|rs c V W h1 h2=>exact one (.rs c V W h1 h2) rfl rfl E|rs0=>exact one .rs0 rfl rfl E|ls c X V h1 h2=>exact one (.ls c X V h1 h2) rfl rfl E|rm ck cv es clock V h1 h2 O h4 h5=>exact one (.rm ck cv es clock V h1 h2 O h4 h5) rfl rfl E|rm0=>exact one .rm0 rfl rfl E|agg V h1=>simp[rI]at E;subst E;exact⟨V,h1⟩|tup=>simp[rI]at E|fn V W h1 h2=>exact one (.fn V W h1 h2) rfl rfl E
def nbl {n m:Nat}(h:Nat.ble n m=true):n<=m:=Nat.le_of_ble_eq_true h
theorem zw {k:Tag}{x:k.T}{j:Nat}{s:SV}(h:(cellsOf k x)[j]? =some s):(∃ y,s=.v y/\rR y=true)\/(∃ (k':Tag) (l:List k'.T),s=.rs k' l/\att k'<att k)\/(∃ (k' k2:Tag) (l:List (k'.T×k2.T)),s=.rm k' k2 l/\att k'<att k/\att k2<att k)\/∃ f,s=.fn f [] []/\att k≠0:=by
 have hm:=aql h;cases k <;>simp only[cellsOf,aqg]at hm <;>
  (repeat' (rcases hm with hm|hm)) <;>first|exact .inl ⟨_,rfl,rfl⟩ |exact .inr (.inl ⟨_,_,rfl,by decide⟩) |exact .inr (.inr (.inl ⟨_,_,_,rfl,by decide,by decide⟩)) |(cases x <;>first|exact .inl ⟨_,rfl,rfl⟩ |exact .inr (.inr (.inr ⟨_,rfl,by decide⟩)))
section
variable {P:Program}{F:Nat->Prop}{own:Own}{w:World}
theorem cV {x v:Value}(h:Rel F own w (.v x) v):v=x:=by cases h;rfl
theorem Np {k:Tag}{x:k.T}{j:Nat}{s:SV}{u:Value}(h:(cellsOf k x)[j]? =some s)(hr:Rel F own w s u):rR u=true:=by
 rcases zw h with⟨y,rfl,hy⟩ | ⟨k',l,rfl,_⟩ | ⟨k',k2,l,rfl,_⟩ | ⟨f,rfl,_⟩;grind [cV]
 cases hr <;>rfl;cases hr <;>rfl;cases hr <;>rfl
def atT (F:Nat->Prop)(own:Own)(w:World)(k:Tag)(l:List k.T)(o:Nat)(cs:Array Value):Prop:=
 ∀ (i:Nat) (x:k.T),l[i]? =some x->∀ (j:Nat) (s:SV),(cellsOf k x)[j]? =some s->∃ u,cs[o+i*ae k+j]? =some u/\Rel F own w s u
def atJ (F:Nat->Prop)(own:Own)(w:World)(k:Tag)(l:List k.T)(v:Value)(bs:List Nat):Prop:=
 (∃ a,v=.slice a 0 0/\l=[]/\bs=[])\/
 ∃ b o cap cs ty,v=.slice (some ⟨b,o,none⟩) l.length cap/\bs=[b]/\w.heap[b]? =some (.cells cs ty (0,0))/\o+cap*ae k<=cs.size/\l.length<=cap/\l.length<=aD/\atT F own w k l o cs
def aum (F:Nat->Prop)(own:Own)(w:World)(kk vk:Tag)(l:List (kk.T×vk.T))(es:Array MapEntry):Prop:=
 es.size=l.length/\∀ (i:Nat) (x:kk.T×vk.T),l[i]? =some x->∃ e,es[i]? =some e/\True/\Rel F own w (svT kk x.1) e.key/\Rel F own w (svT vk x.2) e.val
def fB (kk vk:Tag)(l:List (kk.T×vk.T)):Option (Nat×Option kk.T)->List (kk.T×vk.T)
 |some (_,some x) =>if(i6 l x).isSome then l else l++[(x,eT vk)]|_=>l
theorem lz {kk E:Tag}{l:List (kk.T×E.T)}{p:Option (Nat×Option kk.T)}(h:noE p=true):fB kk E l p=l:=by
 cases p with
 |none=>rfl
 |some q=>have⟨i,q⟩:=q;cases q with
  |none=>rfl|some x=>cases h
def lX (a:Array MapEntry):List Nat:=a.toList.map (·.born)
def Stamped (a:Array MapEntry)(b:Nat):Prop:=(lX a).Nodup/\∀ n∈lX a,n<b
def stV (a:List Nat)(b:Nat):List Value:=.int .i64 b::a.map λn=>.int .i64 (n:Nat)
def auO (own:Own)(kk vk:Tag)(l:List (kk.T×vk.T))(es:Array MapEntry)(clock:Nat):Option (Nat×Option kk.T)->Prop
 |none=>True|some (nx,some x) =>∃ hd2 e,own nx=some hd2/\es[yR kk vk l x]? =some e/\hd2.v=.int .i64 e.born|some (nx,none) =>∃ hd2,own nx=some hd2/\hd2.vs=stV (lX es) clock
def atK (F:Nat->Prop)(own:Own)(w:World)(k:Tag):List (List k.T)->List Value->List Nat->Prop
 | [],[],bs=>bs=[]|l::ls,v::vs,bs=>∃ b1 b2,bs=b1++b2/\rR v=true/\atJ F own w k l v b1/\atK F own w k ls vs b2|_,_,_=>False
def atY (F:Nat->Prop)(own:Own)(w:World)(hd:Hd):Ob->Prop
 | .cells l=>∃ b cs ty,hd.p=some b/\hd.bs=[b]/\w.heap[b]? =some (.cells cs ty (0,0))/\cs.size=l.length/\∀ (j:Nat) (s:SV),l[j]? =some s->Rel F own w s (cs.getD j undef)| .dead=>True| .row k l=>atJ F own w k l hd.v hd.bs| .mp kk vk l aui=>∃ b es clock,hd.v=.map (some b)/\hd.bs=[b]/\w.heap[b]? =some (.map es clock)/\aum F own w kk vk (fB kk vk l aui) es/\Stamped es clock/\auO own kk vk l es clock aui
 | .atH k l=>(hd.v=.slice none 0 0/\l=[]/\hd.vs=[]/\hd.bs=[])\/
   ∃ b o cap cs ty bs,hd.v=.slice (some ⟨b,o,none⟩) l.length cap/\hd.bs=b::bs/\hd.bs.Nodup/\w.heap[b]? =some (.cells cs ty (0,0))/\o+cap<=cs.size/\l.length<=cap/\l.length<=aD/\
    (∀ (i:Nat) (v:Value),hd.vs[i]? =some v->cs[o+i]? =some v)/\atK F own w k l hd.vs bs
 | .ab r=>hd.v=r.yv/\r.R (λb=>dn F own b/\b ∉ hd.bs) hd.bs w
 | .raw o=>∃ b,hd.p=some b/\hd.bs=[b]/\w.heap[b]? =some o| .mi mid n left cur=>∃ b,hd.p=some b/\hd.bs=[b]/\∀ i,mid=some i->∃ (hdm:Hd) (bm:Nat) (seen:Array Nat) (c:Nat) (ss:List Nat),own i=some hdm/\hdm.v=.map (some bm)/\w.heap[b]? =some (.mapIter (some bm) c seen c)/\hd.vs=stV ss c/\ss.length=n/\left.Nodup/\(∀ k,k∈left↔∃ s,ss[k]? =some s/\¬s∈seen.toList)/\∀ j,cur=some j->∃ s,ss[j]? =some s/\seen.back? =some s| .fwd n=>∀ i,n=some i->∃ hd2,own i=some hd2/\hd2.v=hd.v/\rR hd.v=true| .fz k l=>Rel F own w (.rs k l) hd.v
variable {F':Nat->Prop}{l5:Own}{w':World}
variable {k:Tag}{l:List k.T}{cs:Array Value}
theorem atT.carry(g:atS F own w F' l5 w'){o:Nat}(h:atT F own w k l o cs):atT F' l5 w' k l o cs:=
 λi x hi j s E=>by have⟨u,h1,h2⟩:=h i x hi j s E;exact⟨u,h1,h2.carry g⟩
variable {v:Value}
theorem atJ.carry(g:atS F own w F' l5 w'){bs:List Nat}(Y:∀ b∈bs,w'.heap[b]? =w.heap[b]?)(h:atJ F own w k l v bs):atJ F' l5 w' k l v bs:=by
 rcases h with h| ⟨b,o,cap,cs,ty,h1,h2,X,O,W,E,V⟩;exact .inl h;exact .inr ⟨b,o,cap,cs,ty,h1,h2,XN,O,W,E,V.carry g⟩
theorem atK.carry(g:atS F own w F' l5 w'):∀ {l:List (List k.T)} {vs:List Value} {bs:List Nat},(∀ b∈bs,w'.heap[b]? =w.heap[b]?)->atK F own w k l vs bs->atK F' l5 w' k l vs bs
 | [],[],bs,_,h=>h
 |l::ls,v::vs,bs,O,⟨X,V,h1,W,h2,Y⟩ =>⟨X,V,h1,W,h2.carry g λb E=>O b XN,atK.carry g (λb E=>O b XN) Y⟩
 | [],_::_,_,_,h=>h.elim|_::_,[],_,_,h=>h.elim
variable {es:Array MapEntry}
theorem aum.carry(g:atS F own w F' l5 w'){kk E:Tag}{l:List (kk.T×E.T)}(h:aum F own w kk E l es):aum F' l5 w' kk E l es:=
 ⟨h.1,λi x hi=>by have⟨e,h1,h2,h3,h4⟩:=h.2 i x hi;exact⟨e,h1,h2,h3.carry g,h4.carry g⟩⟩
theorem auO.ids(g:∀ (id:Nat) (hd:Hd),own id=some hd->∃ hd',l5 id=some hd'/\hd.like hd'){kk E:Tag}{l:List (kk.T×E.T)}{clock:Nat}{p:Option (Nat×Option kk.T)}(h:auO own kk E l es clock p):auO l5 kk E l es clock p:=by
 cases p with
 |none=>trivial
 |some q=>
  have⟨i,q⟩:=q;cases q with
  |some x=>
   have⟨hd2,e,h1,h2,h3⟩:=h;have⟨hd',e1,e2⟩:=g _ _ h1;exact⟨hd',e,e1,h2,e2.2.1.trans h3⟩
  |none=>
   have⟨hd2,h1,h2⟩:=h;have⟨hd',e1,e2⟩:=g _ _ h1;exact⟨hd',e1,e2.2.2.trans h2⟩
theorem atY.carry (g:atS F own w F' l5 w')(hsz:w.heap.size<=w'.heap.size){hd:Hd}(hb:∀ b∈hd.bs,w'.heap[b]? =w.heap[b]?){o:Ob}(h:atY F own w hd o):atY F' l5 w' hd o:=by
 cases o with
 |cells l=>have⟨b,cs,ty,h1,h2,O,W,V⟩:=h;exact⟨b,cs,ty,h1,h2,XN,W,λj s hj=>(V j s hj).carry g⟩
 |dead=>trivial|row k l=>exact atJ.carry g hb h
 |mp kk vk l aui=>have⟨b,es,clock,h1,h2,O,W,V,X⟩:=h;exact⟨b,es,clock,h1,h2,XN,W.carry g,V,X.ids g.ids⟩
 |atH k l=>
  rcases h with h| ⟨b,o,cap,cs,ty,bs,h1,h2,O,W,V,X,h7,h8,h9⟩;exact .inl h;exact .inr ⟨b,o,cap,cs,ty,bs,h1,h2,O,XN,V,X,h7,h8,h9.carry g λb' hb'=>hb b' XN⟩
 |ab r=>
  refine⟨h.1,r.loc _ _ _ w w' h.2 hsz (λb E hn=>?_) (λb E hn=>⟨?_,hn.2⟩)⟩;by_cases hm:b∈hd.bs
  exact hb b hm;exact(g.keep b E λY=>hn ⟨Y,hm⟩).2;exact aqH λY=>(g.keep b E Y).1 hn.1
 |raw o=>have⟨b,h1,h2,O⟩:=h;exact⟨b,h1,h2,XN⟩
 |mi mid n left cur=>
  have⟨b,h1,h2,O⟩:=h;refine⟨b,h1,h2,λi hi=>?_⟩;have⟨hdm,bm,seen,c,ss,k1,k2,k3,k4⟩:=O i hi;have⟨hd',e1,e2⟩:=g.ids _ _ k1;exact⟨hd',bm,seen,c,ss,e1,e2.2.1.trans k2,XN,k4⟩
 |fwd n=>
  intro i hi;have⟨hd2,k1,k2,k3⟩:=h i hi;have⟨hd',e1,e2⟩:=g.ids _ _ k1;exact⟨hd',e1,e2.2.1.trans k2,k3⟩
 |fz k l=>exact Rel.carry g h
structure Hp (F:Nat->Prop)(own:Own)(w:World)(h:List Ob):Prop where
 dom:∀ (id:Nat) (hd:Hd),own id=some hd->id<h.length
 atu:∀ b,F b->b<w.heap.size
 apart:∀ (id:Nat) (hd:Hd) (b:Nat),own id=some hd->b∈hd.bs->¬F b
 inj:∀ (i j:Nat) (hi hj:Hd) (b:Nat),own i=some hi->own j=some hj->b∈hi.bs->b∈hj.bs->i=j
 lt:∀ (id:Nat) (hd:Hd) (b:Nat),own id=some hd->b∈hd.bs->b<w.heap.size
 obs:∀ (id:Nat),dT (aq h id)=false->∃ hd,own id=some hd/\atY F own w hd (aq h id)
variable {h:List Ob}
theorem Hp.at(E:Hp F own w h){id:Nat}{o:Ob}(O:aq h id=o)(hd:dT o=false):∃ hd,own id=some hd/\atY F own w hd o:=by
 subst O;exact E.obs id hd
theorem Hp.upd{h':List Ob}(O:Hp F own w h)(g:at4 F own w l5 w')(U:Nat->Prop)(V:h.length<=h'.length)
  (same:∀ id,¬U id->l5 id=own id/\aq h' id=aq h id/\∀ hd b,own id=some hd->b∈hd.bs->w'.heap[b]? =w.heap[b]?)
  (new:∀ id hd,U id->l5 id=some hd->id<h'.length/\∀ b∈hd.bs,b<w'.heap.size/\¬F b/\∀ j W,j≠id->l5 j=some W->b ∉ W.bs)
  (obs:∀ id,U id->dT (aq h' id)=false->∃ hd,l5 id=some hd/\atY F l5 w' hd (aq h' id)):Hp F l5 w' h':=by
 refine⟨λid hd h1=>?_,λb hb=>aqi (O.atu b hb) g.size,λid hd b h1 h2=>?_,λi j hi W b h1 h2 h3 h4=>?_,λid hd b h1 h2=>?_,λid hd=>?_⟩;by_cases E:U id
 grind
 rw[(same id E).1]at h1;exact aqi (O.dom id hd h1) V;by_cases E:U id
 grind
 rw[(same id E).1]at h1;exact O.apart id hd b h1 h2;by_cases X:U i
 grind
 by_cases Y:U j
 grind
 rw[(same i X).1]at h1;rw[(same j Y).1]at h2;exact O.inj i j hi W b h1 h2 h3 h4;by_cases E:U id
 grind
 rw[(same id E).1]at h1;exact aqi (O.lt id hd b h1 h2) g.size;by_cases E:U id
 grind
 have⟨e1,e2,e3⟩:=same id E;rw[e2]at hd |-;have⟨hdd,q1,q2⟩:=O.obs id hd;exact⟨hdd,XN,q2.carry g.at7 g.size λb hb=>e3 hdd b q1 hb⟩
theorem Hp.aub(V:Hp F own w h)(g:at4 F own w own w')(E:∀ (id:Nat) (hd:Hd) (b:Nat),own id=some hd->b∈hd.bs->w'.heap[b]? =w.heap[b]?):Hp F own w' h:=
 V.upd g (λ_=>False) (aqb _) (λid _=>⟨rfl,rfl,λhd b h1 h2=>E id hd b h1 h2⟩) (λ_ _ O=>O.elim) (λ_ O=>O.elim)
theorem Hp.below(E:Hp F own w h)(O:Below w.heap.size w w'):Hp F own w' h:=
 E.aub (at4.below F own O) λid hd b h1 h2=>O.block b (E.lt id hd b h1 h2)
structure auv (own:Own)(h:List Ob)(nx:Nat):Prop where
 none:own nx=none
 dead:aq h nx=.dead
theorem Hp.nx(O:Hp F own w h):auv own h h.length:=by
 refine⟨?_,ve (aqb _)⟩;cases E:own h.length with
 |none=>rfl|some hd=>exact absurd (O.dom _ _ E) (arh _)
def Own.set (a:Own)(b:Nat)(c:Hd):Own:=λj=>if j=b then some c else a j
theorem Own.atQ (own:Own)(id:Nat)(hd:Hd):own.set id hd id=some hd:=by simp[Own.set]
theorem Own.atX (own:Own){id j:Nat}(hd:Hd)(h:j≠id):own.set id hd j=own j:=by simp[Own.set,h]
structure Step (F:Nat->Prop)(own:Own)(w:World)(h':List Ob)(l5:Own)(w':World):Prop where
 hp:Hp F l5 w' h'
 fr:Fr { w:=w,own:=own} l5 w'
 fresh:∀ id,own id=none->dT (aq h' id)=true->l5 id=none
theorem w8(X:Hp F own w h){nx:Nat}(hn:auv own h nx){w1:World}(hw1:w1.heap=w.heap/\w1.os=w.os/\w1.tape=w.tape/\w1.output=w.output)(o:Obj)(ob:Ob)(hd:Hd)(hbs:hd.bs=[w.heap.size])
  (hob:∀ l5:Own,at4 F own w l5 (w1.alloc o)->atY F l5 (w1.alloc o) hd ob) (hnd:dT ob=false:=by rfl):Step F own w (cO h nx ob) (own.set nx hd) (w1.alloc o):=by
 have⟨q1,q2,q3,q4⟩:=hw1;have Y:(w1.alloc o).heap=w.heap.push o:=by show w1.heap.push o=_;rw[q1]
 have O:∀ b,b<w.heap.size->(w1.alloc o).heap[b]? =w.heap[b]?:=λb V=>XN
 have hsz:(w1.alloc o).heap.size=w.heap.size+1:=XN
 have ids:∀ (id:Nat) (E:Hd),own id=some E->∃ hd',own.set nx hd id=some hd'/\E.like hd':=λid E h1=>by
  have W:id≠nx:=λe=>by rw[e,hn.none]at h1;cases h1
  exact⟨E,by grind [Own.atX],.refl _⟩
 have fr:Fr { w:=w,own:=own} (own.set nx hd) (w1.alloc o):=Fr.auk ids (λid E b h1 h2=>by
   grind [Own.atQ,Own.atX]) (λb V _=>O b V) XM q2 q3 q4
 have g:at4 F own w (own.set nx hd) (w1.alloc o):=fr.aub;refine⟨X.upd g (· =nx) (by grind [cJ]) (λid hid=>⟨Own.atX _ _ hid,by rw[dM,if_neg (λe=>hid e.symm)],λE b h1 h2=>O b (X.lt id E b h1 h2)⟩) (λid E hid h1=>?_) (λid hid _=>?_),fr,λid h1 h2=>?_⟩
 rotate_left 2
 grind [dM,Own.atX]
 subst hid;rw[Own.atQ]at h1;cases h1;refine⟨by grind [cJ],λb V=>?_⟩;rw[hbs]at V;simp at V;subst V;refine⟨XM,λhf=>arh _ (X.atu _ hf),λj hj W h2 h3=>?_⟩;rw[Own.atX _ _ W]at h2;exact arh _ (X.lt j hj _ h2 h3);grind [Own.atQ,dM]
theorem rS(W:Hp F own w h){id:Nat}{hd:Hd}(h1:own id=some hd){b:Nat}(hb:b∈hd.bs)(hsz:w'.heap.size=w.heap.size)(O:∀ k,k≠b->w'.heap[k]? =w.heap[k]?)(q2:w'.os=w.os)(q3:w'.tape=w.tape)(q4:w'.output=w.output)(ob:Ob)
  (hob:at4 F own w own w'->atY F own w' hd ob):Step F own w (cO h id ob) own w':=by
 have hlt:=W.dom id hd h1;have fr:Fr { w:=w,own:=own} own w':=Fr.auk (λ_ E h=>⟨E,h,.refl _⟩) (λid E b h1 h2=>.inl ⟨id,E,h1,h2⟩) (λk _ hn=>O k λe=>hn ⟨id,hd,h1,e▸hb⟩) XM q2 q3 q4;refine⟨W.upd fr.aub (· =id) (by rw[cJ,if_pos hlt];omega) (λj Y=>⟨rfl,by rw[dM,if_neg (λe=>Y e.symm)],λE X h2 h3=>O X λe=>Y (W.inj j id E hd X h2 h1 h3 (e▸hb))⟩) (λj E Y h2=>?_) (λj Y _=>?_),fr,λ_ h1 _=>h1⟩;subst Y;rw[h1]at h2;cases h2;exact⟨by simp_all [cJ],λX V=>⟨by rw[hsz];exact W.lt j hd X h1 V,W.apart j hd X h1 V,λi hi hne h3 h4=>hne (W.inj i j hi hd X h3 h1 h4 V)⟩⟩;subst Y;refine⟨hd,h1,?_⟩;rw[dM,if_pos rfl];exact hob fr.aub
theorem LK(V:Hp F own w h){id:Nat}{hd:Hd}(h1:own id=some hd)(ob:Ob)(hob:atY F own w hd ob):Step F own w (cO h id ob) own w:=by
 have hlt:=V.dom id hd h1;have fr:Fr { w:=w,own:=own} own w:=Fr.auk (λ_ E h=>⟨E,h,.refl _⟩) (λid E b h1 h2=>.inl ⟨id,E,h1,h2⟩) (λ_ _ _=>rfl) (aqb _) rfl rfl rfl;refine⟨V.upd fr.aub (· =id) (by rw[cJ,if_pos hlt];omega) (λj W=>⟨rfl,by rw[dM,if_neg (λe=>W e.symm)],λ_ _ _ _=>rfl⟩) (λj E W h2=>?_) (λj W _=>?_),fr,λ_ h1 _=>h1⟩;subst W;rw[h1]at h2;cases h2;exact⟨by simp_all [cJ],λX O=>⟨V.lt j hd X h1 O,V.apart j hd X h1 O,λi hi Y h3 h4=>Y (V.inj i j hi hd X h3 h1 h4 O)⟩⟩;simp_all [dM]
theorem UB {O E:List Nat}{c V:Nat}(h:stV O c=stV E V):c=V/\O=E:=by
 unfold stV at h;simp[arP,Value.int.injEq]at h;refine⟨XM,?_⟩;induction O generalizing E with
 |nil=>simp_all|cons a r W=>cases E <;>grind
variable {t:TypeId}{ti:TI}
theorem bY(h:jZ P t=some ti):∃ i d z,P.info? t=some i/\P.underlying t=some d/\i.zero=some z/\Ch P d=true/\ti=eD P t i d:=by
 unfold jZ at h;split at h
 rename_i i d hi hd;cases E:i.zero <;>grind;cases h
theorem dU{i:TypeInfo}(h:P.info? t=some i):(sizeOf t).run P w=.ok i.size w:=by
 simp[sizeOf,typeInfo,h]
theorem Aq{d:TypeDesc}(h:P.underlying t=some d):(isAgg t).run P w=.ok (lw P t) w:=by
 simp[isAgg,aqF,run_underlying h,lw,h];cases d <;>simp
theorem pb (b o n:Nat):Addr.add ⟨b,o,none⟩ n=⟨b,o+n,none⟩:=by grind [Addr.add]
variable {ty:TypeId}
theorem eU{b:Nat}{fr:Nat×Nat}(h:w.heap[b]? =some (.cells cs ty fr))(j:Nat):w.cell? ⟨b,j,none⟩=cs[j]?:=by
 simp[World.cell?,h]
theorem Hs{b:Nat}(h:w.heap[b]? =some (.cells cs ty (0,0)))(j:Nat):w.frozen? ⟨b,j,none⟩=false:=by
 simp[World.frozen?,h]
variable {s':SV}
theorem Cu(W:jZ P t=some ti){l:List SV}{b o off:Nat}(c:Nat->Value)
  (hc:∀ (j:Nat) (s:SV),l[j]? =some s->w.cell? ⟨b,o+j,none⟩=some (c j)/\Rel F own w s (c j))  (E:t5 ti.agg ti.size l off=some s'):
  ∃ u,(loadVar t ⟨b,o+off,none⟩).run P w=.ok u w/\Rel F own w s' u:=by
 obtain⟨i,d,z,hi,hd,hz,hq,rfl⟩:=bY W;simp[eD]at E;simp[loadVar,aqF,Aq hd];cases V:lw P t with
 |true=>
  simp[t5,V,tB,No,GB]at E;cases O:Nat.ble (off+i.size) l.length with
  |false=>grind
  |true=>
   simp[O,cond_true,aqd]at E;subst E;have X:off+i.size<=l.length:=nbl O;simp[if_true,aqF,dU hi,aqK];rw[run_loadCells w ⟨b,o+off,none⟩ i.size (λj=>c (off+j)) (λj Y=>by
    have:=(hc (off+j) _ (aqf XM)).1;grind [pb])]
   refine⟨_,rfl,.agg (by simp;omega) λj s Y=>?_⟩;simp_all <;>grind
 |false=>
  simp_all [t5,gW]
theorem xX {o:Option SV}{s:SV}(h:w5 o=.val s):o=some s:=by
 cases o with
 |none=>simp[w5]at h|some x=>grind [w5]
theorem vh {α:Type}{l:List α}{i:Nat}{d:α}(h:i<l.length):l[i]? =some (l.getD i d):=XN
theorem atT.get{o:Nat}(h:atT F own w k l o cs){i:Nat}(hi:i<l.length){j:Nat}{s:SV}(E:(cellsOf k (l.getD i (eT k)))[j]? =some s):
  cs[o+i*ae k+j]? =some (cs.getD (o+i*ae k+j) undef)/\Rel F own w s (cs.getD (o+i*ae k+j) undef):=by
 have⟨u,h1,h2⟩:=h i _ (vh hi) j s E;simp_all
theorem atK.get:∀ {l:List (List k.T)} {vs:List Value} {bs:List Nat} {i:Nat} {v:Value},atK F own w k l vs bs->vs[i]? =some v->∃ E,rR v=true/\i<l.length/\atJ F own w k (l.getD i []) v E/\∀ b∈E,b∈bs
 | [],[],bs,i,v,_,h=>by simp at h
 |l::ls,u::vs,bs,0,v,⟨E,b2,h1,h0,h2,h3⟩,h=>XN
 |l::ls,u::vs,bs,i+1,v,⟨E,b2,h1,h0,h2,h3⟩,h=>by
  obtain⟨V,X,W,O,Y⟩:=atK.get h3 (by simpa using h);grind
 | [],_::_,_,_,_,h,_=>h.elim|_::_,[],_,_,_,h,_=>h.elim
theorem atK.len:∀ {l:List (List k.T)} {vs:List Value} {bs:List Nat},atK F own w k l vs bs->vs.length=l.length
 | [],[],_,_=>rfl
 |l::O,u::vs,bs,⟨X,V,h1,W,h2,E⟩ =>by simp[atK.len E]
 | [],_::_,_,h=>h.elim|_::_,[],_,h=>h.elim
theorem PO(hp:Hp F own w h)(ht:jZ P t=some ti){s:SV}(hr:Rel F own w s v)(E:uk ti h s=.val s'):
  ∃ u,(Instr.loadAt t v).run P w=.ok u w/\Rel F own w s' u:=by
 cases hr with
 |ptr h1 h2=>
  rename_i id off b hd;simp[uk]at E;cases V:aq h id with
  |cells l=>
   rw[V]at E;have O:=xX E;have⟨hd',e0,b',cs,ty,X,e2,e3,e4,e5⟩:=hp.at V rfl;rw[h1]at e0;cases e0;rw[h2]at X;cases X;have:=Cu (P:=P) (w:=w) (F:=F) (own:=own) (b:=b) (o:=0) (off:=off) ht (λj=>cs.getD j undef) (λj s hj=>by
    refine⟨?_,e5 j s hj⟩;have hjl:j<cs.size:=XN
    rw[eU e3];simp[hjl]) O
   grind [Instr.loadAt,Instr.sureAddr]
  |_=>rw[V]at E;simp[Ck]at E
 |ep c h1 h2=>
  rename_i cells off b o;have O:=xX E;have:=Cu (P:=P) (w:=w) (F:=F) (own:=own) (b:=b) (o:=o) (off:=off) ht c (λj s hj=>⟨(h1 j s hj).2,h2 j s hj⟩) O;grind [Instr.loadAt,Instr.sureAddr]
 |rp h1 h2 h3=>
  rename_i W id off n cap b o i hd;simp[uk]at E;cases V:aq h id with
  |row k l=>
   rw[V]at E;simp[G8]at E;cases Y:Nat.beq W (ae k)with
   |false=>grind
   |true=>
    rw[Y]at E;have hsz:=ap_ Y;have O:=xX E;have⟨hd',e0,e⟩:=hp.at V rfl;rw[h1]at e0;cases e0;rcases e with⟨a,X,_⟩ | ⟨b',o',cap',cs,ty,X,e2,e3,e4,e5,e6,e7⟩;grind
    rw[h2]at X;obtain⟨⟨rfl,rfl,_⟩,rfl,rfl⟩:=X;have:=Cu (P:=P) (w:=w) (F:=F) (own:=own) (b:=b) (o:=o+i.toNat*W) (off:=off) ht (λj=>cs.getD (o+i.toNat*ae k+j) undef) (λj s hj=>by
     have:=e7.get h3 hj;grind [eU]) O
    grind [Instr.loadAt,Instr.sureAddr]
  |atH k l=>
   rw[V]at E;simp[G8]at E;cases Y:Nat.beq W 1&&Nat.beq off 0&& !ti.agg with
   |false=>grind
   |true=>
    rw[Y]at E;simp[ap9,aqA]at Y;simp[cond_true,OR.val.injEq]at E;subst E;have⟨hd',e0,e⟩:=hp.at V rfl;rw[h1]at e0;cases e0;rcases e with⟨X,_⟩ | ⟨b',o',cap',cs,ty,bs,X,e2,e3,e4,e5,e6,e7,e8,e9⟩;grind
    rw[h2]at X;simp[asd]at X;have hlen:=e9.len;have hv:hd.vs[i.toNat]? =some (hd.vs.getD i.toNat undef):=vh XM;have⟨b1,q1,q2,q3,q4⟩:=e9.get hv;refine⟨_,?_,.gr h1 hv q1⟩;obtain⟨i',d,z,hi,hdd,hz,hq,rfl⟩:=bY ht;have hcell:w.cell? ⟨b,o+i.toNat,none⟩=some (hd.vs.getD i.toNat undef):=by grind [eU]
    have hag:lw P t=false:=Y.2;simp_all [Instr.loadAt,Instr.sureAddr,loadVar,Aq]
  |_=>rw[V]at E;simp[G8]at E
 |gp h1 h2 h3=>
  rename_i W id off n cap b o i j hd;simp[uk]at E;cases V:aq h id with
  |atH k l=>
   rw[V]at E;simp[DJ]at E;cases Y:Nat.beq W (ae k)with
   |false=>grind
   |true=>
    rw[Y]at E;have hsz:=ap_ Y;have O:=xX E;have⟨hd',e0,e⟩:=hp.at V rfl;rw[h1]at e0;cases e0;rcases e with⟨_,_,X,_⟩ | ⟨b',o',cap',cs,ty,bs,X,e2,e3,e4,e5,e6,e7,e8,e9⟩;grind
    have⟨b1,q1,q2,q3,q4⟩:=e9.get h2;rcases q3 with⟨a,k1,_⟩ | ⟨b2,o2,cap2,cs2,ty2,k1,k2,k3,k4,k5,k6,k7⟩;grind
    obtain⟨⟨rfl,rfl,_⟩,rfl,rfl⟩:=k1;have:=Cu (P:=P) (w:=w) (F:=F) (own:=own) (b:=b) (o:=o+j.toNat*W) (off:=off) ht (λq=>cs2.getD (o+j.toNat*ae k+q) undef) (λq s hj=>by
     have:=k7.get h3 hj;grind [eU]) O
    grind [Instr.loadAt,Instr.sureAddr]
  |_=>rw[V]at E;simp[DJ]at E
 |_=>simp[uk]at E
variable {f:Nat}
theorem UC(O:jZ P t=some ti){x:Nat×Nat×Bool}(E:nth ti.fields f=some x):
  ∃ fs fd,P.underlying t=some (.struct fs)/\fs[f]? =some fd/\x=(fd.offset,pY P fd.type,lw P fd.type):=by
 obtain⟨i,d,z,hi,hd,V,W,rfl⟩:=bY O;simp[eD,gW]at E;grind
theorem acg{s:SV}{n:Nat}(hr:Rel F own w s v)(h:DK n s=.val s'):
  ∃ b o,v=.pointer (some ⟨b,o,none⟩)/\Rel F own w s' (.pointer (some ⟨b,o+n,none⟩)):=by
 cases hr with
 |ptr h1 h2=>simp[DK,OR.val.injEq]at h;subst h;exact⟨_,_,rfl,.ptr h1 h2⟩
 |ep c h1 h2=>simp[DK,OR.val.injEq]at h;subst h;exact⟨_,_,rfl,by rw[arx];exact .ep c h1 h2⟩
 |rp h1 h2 E=>simp[DK,OR.val.injEq]at h;subst h;exact⟨_,_,rfl,by rw[arx];exact .rp h1 h2 E⟩
 |gp h1 h2 E=>simp[DK,OR.val.injEq]at h;subst h;exact⟨_,_,rfl,by rw[arx];exact .gp h1 h2 E⟩
 |_=>simp[DK]at h
theorem Nq(V:jZ P t=some ti){o n:Nat}{g:Bool}(W:nth ti.fields f=some (o,n,g))(hn:1<=n){s:SV}
  (hr:Rel F own w s v) (h:DK o s=.val s'):∃ u,(Instr.fieldAt t v f).run P w=.ok u w/\Rel F own w s' u:=by
 have⟨fs,fd,hu,hfd,he⟩:=UC V W;obtain⟨b,q,rfl,O⟩:=acg hr h;obtain⟨rfl,rfl,rfl⟩:=he;refine⟨_,?_,O⟩;have E:(sizeOf fd.type).run P w=.ok (pY P fd.type) w:=by
  grind [pY,dU]
 simp[Instr.fieldAt,aqF,run_underlying hu,aqK,hfd,Instr.sureAddr,ase,fieldPlace,E];rw[if_neg XM];simp[pb]
theorem Wc(ht:jZ P t=some ti){s:SV}(hr:Rel F own w s v)(h:u7 (nth ti.fields f) (Kq s)=.val s'):
  ∃ u,(Instr.field t v f).run P w=.ok u w/\Rel F own w s' u:=by
 cases X:nth ti.fields f with
 |none=>grind [u7]
 |some x=>
  have⟨fs,fd,hu,hfd,he⟩:=UC ht X;obtain⟨rfl,rfl,rfl⟩:=he;obtain⟨i,d,z,hi,hd,hz,hq,rfl⟩:=bY ht;have W:(P.info? fd.type).isSome/\(P.underlying fd.type).isSome:=by
   simp[Ch]at hq;grind
  have⟨fi,hfi⟩:=ar3.1 W.1;have⟨fd',hfu⟩:=ar3.1 W.2;have key:∀ (l:List SV) (vs:Array Value),vs.size=l.length->(∀ (j:Nat) (s:SV),l[j]? =some s->Rel F own w s (vs.getD j undef))->u7 (some (fd.offset,pY P fd.type,lw P fd.type)) (some l)=.val s'->
    ∃ u,(part fd.type vs fd.offset).run P w=.ok u w/\Rel F own w s' u:=by
   intro l vs hl V O;simp[u7]at O;cases E:t5 (lw P fd.type) (pY P fd.type) l fd.offset with
   |none=>grind [w5]
   |some q=>
    simp[E,w5,OR.val.injEq]at O;subst O;simp[pY,hfi]at E;simp[part,aqF,Aq hfu,aqK];cases ha:lw P fd.type with
    |true=>
     simp[t5,ha,tB,No,GB]at E;cases hb:Nat.ble (fd.offset+fi.size) l.length with
     |false=>grind
     |true=>
      simp[hb,cond_true,aqd]at E;subst E;simp only[if_true,aqF,dU hfi];refine⟨_,rfl,.agg (by simp;omega) λj s Y=>?_⟩;simp_all <;>grind
    |false=>
     simp[t5,ha,gW]at E;have h1:=V _ _ E;have hlt:fd.offset<vs.size:=XN
     refine⟨vs.getD fd.offset undef,?_,h1⟩;simp[hlt]
  cases hr with
  |agg h0 h1=>
   rw[X]at h;have⟨u,hu,hru⟩:=key _ _ h0 h1 h;simp_all [Instr.field,run_underlying,asAgg]
  |v x=>
   cases v with
   |agg cs=>
    rw[X]at h;have⟨u,hu,hru⟩:=key (cs.toList.map .v) cs (by simp) (λj s Y=>by
     simp at Y;obtain⟨z,hz,rfl⟩:=Y;simp[hz];exact .v _) h
    simp_all [Instr.field,run_underlying,asAgg]
   |_=>simp[Kq,u7]at h
  |_=>simp[Kq,u7]at h
end
end Go.Sx
end
