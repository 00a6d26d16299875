/- Part of the proof that the law RefuseLeast returns true and leaves its arguments as they were, for all arguments of bulk at most 1048576 (the Upto form). -/
import Derived.Calls
import Derived.Orders
import Derived.Below
import Derived.KernelRfl
import Derived.Laws.Sem
import Derived.Laws.World
import Derived.Laws.Cells
set_option linter.all false
set_option maxHeartbeats 4000000
set_option maxRecDepth 100000
namespace Go.Sx
def alG:=@Bool.and_eq_true
def alH:=@Nat.eq_of_beq_eq_true
def alI:=@Int.toNat_natCast
def alJ:=@Nat.le_refl
def alK:=@Option.some.injEq
def alL:=@List.length_cons
def alM:=@List.getElem?_eq_some_iff
def alN:=@List.length_append
def alO:=@Bool.false_eq_true
def alP:=@List.getElem?_eq_getElem
def alQ:=@Nat.zero_add
def alR:=@List.nil_append
def alS:=@List.length_nil
def alT:=@Nat.lt_of_lt_of_le
def alU:=@List.mem_of_getElem?
def alV:=@List.mem_cons
def alW:=@Nat.le_trans
def alX:=@Nat.mul_le_mul_right
def alY:=@Result.andThen_ok
def alZ:=@Bool.not_true
def al0:=@Bool.not_eq_true'
def al1:=@List.eq_nil_of_length_eq_zero
def al2:=@List.mem_cons_of_mem
def al3:=@List.append_nil
def al4:=@List.mem_cons_self
def al5:=@List.flatMap_cons
def al6:=@Array.getElem?_append_left
def al7:=@List.cons_append
def al8:=@List.pairwise_append
def al9:=@Sem.run_bind
def al_:=@Array.getD_eq_getD_getElem?
def ama:=@Bool.or_eq_true
def amc:=@List.all_eq_true
def amd:=@Bool.not_false
def ame:=@Nat.zero_le
def amf:=@Bool.or_eq_false_iff
def amg:=@Classical.byContradiction
def amh:=@List.pairwise_iff_getElem
def ami:=@List.nodup_cons
def amj:=@List.mem_append
def amk:=@List.mem_iff_getElem
def aml:=@List.mem_singleton
def amm:=@List.getElem_of_mem
def amn:=@Int.mul_le_mul_of_nonneg_right
def amo:=@Bool.eq_iff_iff
def amp:=@List.pairwise_singleton
def amq:=@List.length_pos_iff
def amr:=@Sum.inr.injEq
def ams:=@List.getElem?_of_mem
def amt:=@List.append_assoc
def amu:=@List.map_cons
def amv:=@List.length_filter_le
def amw:=@List.not_mem_nil
def amx:=@List.any_eq_true
def amy:=@Int.tmod_eq_emod_of_nonneg
def amz:=@List.pairwise_mergeSort
def amA:=@List.getElem_mem
def amB:=@List.getElem?_map
def amC:=@List.getElem?_append
def amD:=@Int.le_refl
def amE:=@List.mergeSort_perm
def amF:=@Value.slice.injEq
def amG:=@List.take_append_drop
def amH:=@Bool.and_eq_false_iff
def amI:=@Nat.lt_irrefl
def amJ:=@List.Perm.eq_of_pairwise
def amK:=@Nat.add_zero
def amL:=@List.map_nil
def amM:=@List.length_map
def amN:=@Nat.lt_or_ge
def amO:=@List.pairwise_cons
def amP:=@Nat.le_mul_of_pos_right
def amQ:=@List.length_drop
def amR:=@List.flatMap_nil
def amS:=@Bool.cond_eq_ite
def amT:=@List.length_take
def amU:=@List.nodup_append
def amV:=@List.nodup_nil
def amW:=@Array.getElem?_eq_some_iff
def amX:=@Option.map_eq_some_iff
def amY:=@List.take_succ_eq_append_getElem
def amZ:=@List.getD_eq_getElem?_getD
def am0:=@List.mem_flatMap
def am1:=@Bool.or_false
def am2:=@Option.map_some
def am3:=@Sem.run_pure
def am4:=@Array.getElem?_append_right
def am5:=@Int.le_ediv_iff_mul_le
def am6:=@Addr.mk.injEq
def am7:=@Nat.add_assoc
def am8:=@Bool.false_or
def am9:=@List.range'_succ
def am_:=@List.mem_range
def ana:=@Int.emod_lt_of_pos
def anb:=@Bool.not_eq_false'
def anc:=@Array.getElem?_eq_getElem
def ane:=@List.cons.injEq
def anf:=@Int.emod_nonneg
def ang:=@List.mem_filter
def anh:=@List.mem_map
def ani:=@List.mem_of_mem_take
def anj:=@List.length_range
def ank:=@List.length_filterMap_le
def anl:=@List.mem_map_of_mem
def anm:=@Int.toNat_of_nonneg
def ann:=@Option.bind_some
def ano:=@List.take_length
def anp:=@Bool.not_eq_true
def anq:=@Int.ediv_le_ediv
def anr:=@Int.mul_le_mul_of_nonneg_left
def ans:=@List.filter_filter
def ant:=@Bool.true_and
def anu:=@Array.getElem?_toList
def anv:=@List.mem_append_right
def anw:=@List.eq_nil_or_concat
def anx:=@List.concat_eq_append
def anz:=@Int.mul_ediv_add_emod
def anA:=@List.getElem?_set
def anB:=@List.size_toArray
def anC:=@List.pairwise_map
def anD:=@Nat.mul_one
def anE:=@Int.toNat_zero
def anF:=@List.getElem?_append_right
def anG:=@Int.mul_nonneg
def anH:=@Int.le_of_mul_le_mul_right
def anI:=@Nat.sub_self
def anJ:=@List.getElem?_append_left
def anK:=@List.flatMap_append
def anL:=@List.IsPrefix.trans
def anM:=@Option.isSome_iff_exists
def anN:=@Bool.eq_false_or_eq_true
def anO:=@List.length_set
def anP:=@Nat.mod_lt
def anQ:=@Int.lt_tmod_of_pos
def anR:=@List.getElem?_cons_succ
def anS:=@List.flatMap_eq_nil_iff
def anT:=@List.pairwise_filterMap
def anU:=@Nat.add_sub_cancel_left
def anV:=@List.filter_congr
def anW:=@List.getElem?_toArray
def anX:=@List.filterMap_append
def anY:=@Array.eq_empty_of_size_eq_zero
def anZ:=@Option.getD_some
def an0:=@List.eq_nil_iff_forall_not_mem
def an1:=@Int.ediv_le_self
def an2:=@List.mem_append_left
def an3:=@Array.getElem?_setIfInBounds
def an4:=@List.map_append
def an5:=@Nat.div_le_self
def an6:=@List.replicate_succ
def an7:=@List.filter_eq_self
def an8:=@List.getD_cons_zero
def an9:=@Nat.succ_mul
def an_:=@Int.ofNat_zero
def aoa:=@List.getElem?_drop
def aob:=@Nat.add_sub_cancel
def aoc:=@Nat.mul_le_mul
def aod:=@List.take_zero
def aoe:=@List.filter_append
def aof:=@Nat.add_mul
def aog:=@Int.lt_trichotomy
def aoh:=@Bool.and_true
def aoi:=@Nat.gcd_pos_of_pos_right
def aoj:=@Int.mul_tdiv_cancel_left
def aok:=@List.filterMap_cons_some
def aol:=@List.filterMap_cons_none
def aom:=@Nat.mod_eq_of_lt
def aon:=@List.getElem?_cons_zero
def aoo:=@Option.bind_eq_some_iff
def aop:=@Int.eq_ofNat_of_zero_le
def aoq:=@List.drop_length
def aor:=@List.ext_getElem
def aos:=@Int.tmod_eq_emod
def aot:=@List.length_eq_zero_iff
def aou:=@List.drop_eq_nil_of_le
def aov:=@List.getElem?_eraseIdx
def aow:=@List.append_eq_nil_iff
def aox:=@Bool.true_or
def aoy:=@Int.le_trans
def aoz:=@List.length_eq_one_iff
def aoA:=@Classical.em
def aoB:=@List.filter_eq_nil_iff
def aoC:=@List.foldl_cons
def aoD:=@List.range_succ
def aoE:=@World.cell?_alloc_new
def aoF:=@Array.getElem?_modify
def aoG:=@List.length_mergeSort
def aoH:=@List.pairwise_flatMap
def aoI:=@List.pairwise_reverse
def aoJ:=@Array.getElem_of_mem
def aoK:=@List.drop_drop
def aoL:=@Int.natAbs_mul
def aoM:=@List.mem_of_mem_drop
def aoN:=@List.range'_append_1
def aoO:=@Iff.trans
def aoP:=@Prod.mk.injEq
def aoQ:=@Int.lt_irrefl
def aoR:=@Array.foldl_toList
def aoS:=@Nat.div_mul_cancel
def aoT:=@Nat.eq_or_lt_of_le
def aoU:=@Int.add_emod_right
def aoV:=@Int.tmod_lt_of_pos
def aoW:=@List.mem_filterMap
def aoX:=@Int.cast_ofNat_Int
def aoZ:=@Nat.beq_refl
def ao2:=@Bool.not_not
def ao3:=@Array.ext
def ao4:=@Nat.mod_one
def ao5:=@Nat.sub_mul
def ao6:=@Iff.rfl
end Go.Sx
section
namespace Go.Sx
open Go.RowKit
structure Range where
 lo:Int
 hi:Int
 deriving Inhabited,DecidableEq
structure B1 where
 n:Int
 d:Int
 deriving Inhabited,DecidableEq
structure Reach where
 name:ByteArray
 up:Int
 delay:Int
 cap:Int
 apH:Int
 apl:Int
 apP:Range
 apt:B1×B1
 deriving Inhabited,DecidableEq
structure aqa where
 name:ByteArray
 reach:Int
 aqE:Int
 apL:Int
 deriving Inhabited,DecidableEq
structure aqC where
 name:ByteArray
 need:Int
 deriving Inhabited,DecidableEq
structure apu where
 name:ByteArray
 kind:Int
 dd:Int
 reach:Int
 ao8:Int
 bo:Int
 since:Int
 to:Int
 every:Int
 length:Int
 deriving Inhabited,DecidableEq
structure aqF where
 name:ByteArray
 dd:Int
 reach:Int
 due:Int
 deriving Inhabited,DecidableEq
structure aqD where
 dd:Int
 reach:Int
 d:Int
 kernel:List Int
 deriving Inhabited,DecidableEq
structure Part where
 dd:Int
 share:B1
 deriving Inhabited,DecidableEq
structure bh where
 no:Int
 kind:Int
 right:Int
 since:Int
 to:Int
 parts:List Part
 of_:Int
 at_:Int
 known:Int
 deriving Inhabited,DecidableEq
structure S1 where
 reach:Int
 hour:Int
 bo:Int
 wanted:Int
 deriving Inhabited,DecidableEq
structure Claim where
 right:Int
 dd:Int
 hour:Int
 bo:Int
 ao8:Int
 deriving Inhabited,DecidableEq
structure Order where
 hour:Int
 index:Int
 bo:Int
 W1:Bool
 deriving Inhabited,DecidableEq
structure M1 where
 x6:Claim
 reach:Int
 deriving Inhabited,DecidableEq
structure T1 where
 kind:Int
 hour:Int
 index:Int
 bo:Int
 limit:Int
 deriving Inhabited,DecidableEq
structure X1 where
 dd:Int
 reach:Int
 deriving Inhabited,DecidableEq
structure apk where
 hour:Int
 index:Int
 W1:Bool
 deriving Inhabited,DecidableEq
structure ao0 where
 right:Int
 dd:Int
 bo:Int
 ao8:Int
 deriving Inhabited,DecidableEq
structure ee where
 index:Int
 hour:Int
 deriving Inhabited,DecidableEq
structure pq where
 right:Int
 dd:Int
 deriving Inhabited,DecidableEq
structure aqg where
 cap:Int
 start:Int
 deriving Inhabited,DecidableEq
structure ah where
 name:ByteArray
 hours:Int
 apa:aqg
 reaches:List Reach
 l5:List aqa
 apg:List aqC
 ai:List apu
 apb:List aqF
 apQ:List aqD
 deriving Inhabited,DecidableEq
structure apf where
 ai:List Int
 kind:Int
 reach:Int
 hour:Int
 apo:List S1
 deriving Inhabited,DecidableEq
structure x4 where
 d:ah
 c:List Claim
 deriving Inhabited,DecidableEq
structure apE where
 ap_:List (Int×Int)
 owned:List (X1×Bool)
 ap7:List (X1×Bool)
 deriving Inhabited,DecidableEq
structure apU where
 d:ah
 l:List Order
 bo:List (apk×Int)
 asg:List (List Int)
 drawn:List (List Int)
 deriving Inhabited,DecidableEq
inductive Tag where
 |reach|dd|apL|right|apX|int|ap2|part|u0|aoY|x6|order|apc|S2|fault|bool|ints|G2|ao9|fnc|holding|bl|dn|apa|al|refusal|range|ratio|apJ|x5|apn|apj|str
 deriving DecidableEq
abbrev Tag.T:Tag->Type
 | .reach=>Reach| .dd=>aqa| .apL=>aqC| .right=>apu| .apX=>aqF| .int=>Int| .ap2=>aqD| .part=>Part| .u0=>bh| .aoY=>S1| .x6=>Claim| .order=>Order| .apc=>Int×Int| .S2=>M1| .fault=>T1| .bool=>Bool| .ints=>List Int| .G2=>X1| .ao9=>apk| .fnc=>Option Nat| .holding=>ao0| .bl=>ee| .dn=>pq| .apa=>aqg| .al=>ah| .refusal=>apf| .range=>Range| .ratio=>B1| .apJ=>B1×B1| .x5=>x4| .apn=>apE| .apj=>apU| .str=>ByteArray
def zG:Tag->Nat
 | .reach=>0| .dd=>1| .apL=>2| .right=>3| .apX=>4| .int=>5| .ap2=>6| .part=>7| .u0=>8| .aoY=>9| .x6=>10| .order=>11| .apc=>12| .S2=>13| .fault=>14| .bool=>15| .ints=>16| .G2=>17| .ao9=>18| .fnc=>19| .holding=>20| .bl=>21| .dn=>22| .apa=>23| .al=>24| .refusal=>25| .range=>26| .ratio=>27| .apJ=>28| .x5=>29| .apn=>30| .apj=>31| .str=>32
def ao8:Tag->Nat
 | .reach=>0| .dd=>0| .apL=>0| .right=>0| .apX=>0| .int=>0| .ap2=>1| .part=>0| .u0=>1| .aoY=>0| .x6=>0| .order=>0| .apc=>0| .S2=>0| .fault=>0| .bool=>0| .ints=>1| .G2=>0| .ao9=>0| .fnc=>1| .holding=>0| .bl=>0| .dn=>0| .apa=>0| .al=>2| .refusal=>1| .range=>0| .ratio=>0| .apJ=>0| .x5=>2| .apn=>1| .apj=>2| .str=>0
def Tag.ofName:String->Option Tag
 | "api.Reach" =>some .reach
 | "api.Farm" =>some .dd
 | "api.Crop" =>some .apL
 | "api.Right" =>some .right
 | "api.Duty" =>some .apX
 | "api.Errno" =>some .int
 | "expand.refused" =>some .int
 | "int" =>some .int
 | "int64" =>some .int
 | "api.Well" =>some .ap2
 | "api.Part" =>some .part
 | "api.Deed" =>some .u0
 | "api.Parcel" =>some .aoY
 | "api.Claim" =>some .x6
 | "api.Order" =>some .order
 | "[2]int" =>some .apc
 | "refuse.place" =>some .apc
 | "claims.found" =>some .S2
 | "api.Fault" =>some .fault
 | "bool" =>some .bool
 | "[]int" =>some .ints
 | "claims.use" =>some .G2
 | "certify.place" =>some .ao9
 | "func(api.Order) int" =>some .fnc
 | "func(register.book, api.Deed, int)" =>some .fnc
 | "iter.Seq[acequia/api.Fault]" =>some .fnc
 | "api.Holding" =>some .holding
 | "timetable.slot" =>some .bl
 | "register.title" =>some .dn
 | "api.Tank" =>some .apa
 | "api.District" =>some .al
 | "api.Refusal" =>some .refusal
 | "api.Range" =>some .range
 | "api.Ratio" =>some .ratio
 | "[2]api.Ratio" =>some .apJ
 | "refuse.scene" =>some .x5
 | "claims.law" =>some .apn
 | "certify.table" =>some .apj
 | "string" =>some .str
 |_=>none
instance instDecTag:(k:Tag)->DecidableEq k.T
 | .reach=>inferInstanceAs (DecidableEq (Reach))| .dd=>inferInstanceAs (DecidableEq (aqa))| .apL=>inferInstanceAs (DecidableEq (aqC))| .right=>inferInstanceAs (DecidableEq (apu))| .apX=>inferInstanceAs (DecidableEq (aqF))| .int=>inferInstanceAs (DecidableEq (Int))| .ap2=>inferInstanceAs (DecidableEq (aqD))| .part=>inferInstanceAs (DecidableEq (Part))| .u0=>inferInstanceAs (DecidableEq (bh))| .aoY=>inferInstanceAs (DecidableEq (S1))| .x6=>inferInstanceAs (DecidableEq (Claim))| .order=>inferInstanceAs (DecidableEq (Order))| .apc=>inferInstanceAs (DecidableEq (Int×Int))| .S2=>inferInstanceAs (DecidableEq (M1))| .fault=>inferInstanceAs (DecidableEq (T1))| .bool=>inferInstanceAs (DecidableEq (Bool))| .ints=>inferInstanceAs (DecidableEq (List Int))| .G2=>inferInstanceAs (DecidableEq (X1))| .ao9=>inferInstanceAs (DecidableEq (apk))| .fnc=>inferInstanceAs (DecidableEq (Option Nat))| .holding=>inferInstanceAs (DecidableEq (ao0))| .bl=>inferInstanceAs (DecidableEq (ee))| .dn=>inferInstanceAs (DecidableEq (pq))| .apa=>inferInstanceAs (DecidableEq (aqg))| .al=>inferInstanceAs (DecidableEq (ah))| .refusal=>inferInstanceAs (DecidableEq (apf))| .range=>inferInstanceAs (DecidableEq (Range))| .ratio=>inferInstanceAs (DecidableEq (B1))| .apJ=>inferInstanceAs (DecidableEq (B1×B1))| .x5=>inferInstanceAs (DecidableEq (x4))| .apn=>inferInstanceAs (DecidableEq (apE))| .apj=>inferInstanceAs (DecidableEq (apU))| .str=>inferInstanceAs (DecidableEq (ByteArray))
structure Res where
 yv:Value
 n:Nat
 R:(Nat->Prop)->List Nat->World->Prop
 loc:∀ (F F':Nat->Prop) (bs:List Nat) (w w':World),R F bs w->w.heap.size<=w'.heap.size->(∀ b,b<w.heap.size->¬F b->w'.heap[b]? =w.heap[b]?)->(∀ b,b<w.heap.size->F' b->F b)->R F' bs w'
instance:Inhabited Res:=⟨⟨.nilFunc,0,λ_ _ _=>True,λ_ _ _ _ _ _ _ _ _=>trivial⟩⟩
inductive SV where
 |any
 |v (x:Value)
 |ptr (id off:Nat)
 |os (id:Nat)
 |e0
 |rp (sz id:Nat) (i:Int) (off:Nat)
 |gr (id:Nat) (i:Int)
 |gp (sz id:Nat) (i j:Int) (off:Nat)
 |ep (cells:List SV) (off:Nat)
 |rs (k:Tag) (l:List k.T)
 |ls (s:Nat) (l:List SV)
 |rm (kk vk:Tag) (l:List (kk.T×vk.T))
 |agg (l:List SV)
 |tup (l:List SV)
 |fn (f:FuncId) (first caps:List SV)
 |nw (k:Tag) (l:List k.T)
 |nm (kk vk:Tag) (l:List (kk.T×vk.T))
 |ng (k:Tag) (l:List (List k.T))
 |gd (j:Nat) (want:Bool) (s:SV)
 |vw (sz id:Nat) (lo hi:Int)
 |rc (k:Tag) (l:List k.T)
 deriving Inhabited
abbrev SV.i (n:Int):SV:=.v (.int .i64 n)
abbrev SV.b (x:Bool):SV:=.v (.bool x)
abbrev SV.s (x:ByteArray):SV:=.v (.string x)
def fnV:Option Nat->SV|some f=>.fn f [] [] |none=>.v .nilFunc
def cellsOf:(k:Tag)->k.T->List SV
 | .reach,x=>[.v (.string x.name),.v (.int .i64 x.up),.v (.int .i64 x.delay),.v (.int .i64 x.cap),.v (.int .i64 x.apH),.v (.int .i64 x.apl),.v (.int .i64 x.apP.lo),.v (.int .i64 x.apP.hi),.v (.int .i64 x.apt.1.n),.v (.int .i64 x.apt.1.d),.v (.int .i64 x.apt.2.n),.v (.int .i64 x.apt.2.d)]| .dd,x=>[.v (.string x.name),.v (.int .i64 x.reach),.v (.int .i64 x.aqE),.v (.int .i64 x.apL)]| .apL,x=>[.v (.string x.name),.v (.int .i64 x.need)]| .right,x=>[.v (.string x.name),.v (.int .i64 x.kind),.v (.int .i64 x.dd),.v (.int .i64 x.reach),.v (.int .i64 x.ao8),.v (.int .i64 x.bo),.v (.int .i64 x.since),.v (.int .i64 x.to),.v (.int .i64 x.every),.v (.int .i64 x.length)]| .apX,x=>[.v (.string x.name),.v (.int .i64 x.dd),.v (.int .i64 x.reach),.v (.int .i64 x.due)]| .int,x=>[.v (.int .i64 x)]| .ap2,x=>[.v (.int .i64 x.dd),.v (.int .i64 x.reach),.v (.int .i64 x.d),.rs .int x.kernel]| .part,x=>[.v (.int .i64 x.dd),.v (.int .i64 x.share.n),.v (.int .i64 x.share.d)]| .u0,x=>[.v (.int .i64 x.no),.v (.int .i64 x.kind),.v (.int .i64 x.right),.v (.int .i64 x.since),.v (.int .i64 x.to),.rs .part x.parts,.v (.int .i64 x.of_),.v (.int .i64 x.at_),.v (.int .i64 x.known)]| .aoY,x=>[.v (.int .i64 x.reach),.v (.int .i64 x.hour),.v (.int .i64 x.bo),.v (.int .i64 x.wanted)]| .x6,x=>[.v (.int .i64 x.right),.v (.int .i64 x.dd),.v (.int .i64 x.hour),.v (.int .i64 x.bo),.v (.int .i64 x.ao8)]| .order,x=>[.v (.int .i64 x.hour),.v (.int .i64 x.index),.v (.int .i64 x.bo),.v (.bool x.W1)]| .apc,x=>[.v (.int .i64 x.1),.v (.int .i64 x.2)]| .S2,x=>[.v (.int .i64 x.x6.right),.v (.int .i64 x.x6.dd),.v (.int .i64 x.x6.hour),.v (.int .i64 x.x6.bo),.v (.int .i64 x.x6.ao8),.v (.int .i64 x.reach)]| .fault,x=>[.v (.int .i64 x.kind),.v (.int .i64 x.hour),.v (.int .i64 x.index),.v (.int .i64 x.bo),.v (.int .i64 x.limit)]| .bool,x=>[.v (.bool x)]| .ints,x=>[.rs .int x]| .G2,x=>[.v (.int .i64 x.dd),.v (.int .i64 x.reach)]| .ao9,x=>[.v (.int .i64 x.hour),.v (.int .i64 x.index),.v (.bool x.W1)]| .fnc,x=>[fnV x]| .holding,x=>[.v (.int .i64 x.right),.v (.int .i64 x.dd),.v (.int .i64 x.bo),.v (.int .i64 x.ao8)]| .bl,x=>[.v (.int .i64 x.index),.v (.int .i64 x.hour)]| .dn,x=>[.v (.int .i64 x.right),.v (.int .i64 x.dd)]| .apa,x=>[.v (.int .i64 x.cap),.v (.int .i64 x.start)]| .al,x=>[.v (.string x.name),.v (.int .i64 x.hours),.v (.int .i64 x.apa.cap),.v (.int .i64 x.apa.start),.rs .reach x.reaches,.rs .dd x.l5,.rs .apL x.apg,.rs .right x.ai,.rs .apX x.apb,.rs .ap2 x.apQ]| .refusal,x=>[.rs .int x.ai,.v (.int .i64 x.kind),.v (.int .i64 x.reach),.v (.int .i64 x.hour),.rs .aoY x.apo]| .range,x=>[.v (.int .i64 x.lo),.v (.int .i64 x.hi)]| .ratio,x=>[.v (.int .i64 x.n),.v (.int .i64 x.d)]| .apJ,x=>[.v (.int .i64 x.1.n),.v (.int .i64 x.1.d),.v (.int .i64 x.2.n),.v (.int .i64 x.2.d)]| .x5,x=>[.v (.string x.d.name),.v (.int .i64 x.d.hours),.v (.int .i64 x.d.apa.cap),.v (.int .i64 x.d.apa.start),.rs .reach x.d.reaches,.rs .dd x.d.l5,.rs .apL x.d.apg,.rs .right x.d.ai,.rs .apX x.d.apb,.rs .ap2 x.d.apQ,.rs .x6 x.c]| .apn,x=>[.rm .int .int x.ap_,.rm .G2 .bool x.owned,.rm .G2 .bool x.ap7]| .apj,x=>[.v (.string x.d.name),.v (.int .i64 x.d.hours),.v (.int .i64 x.d.apa.cap),.v (.int .i64 x.d.apa.start),.rs .reach x.d.reaches,.rs .dd x.d.l5,.rs .apL x.d.apg,.rs .right x.d.ai,.rs .apX x.d.apb,.rs .ap2 x.d.apQ,.rs .order x.l,.rm .ao9 .int x.bo,.rs .ints x.asg,.rs .ints x.drawn]| .str,x=>[.v (.string x)]
def aa:Tag->Nat
 | .reach=>12| .dd=>4| .apL=>2| .right=>10| .apX=>4| .int=>1| .ap2=>4| .part=>3| .u0=>9| .aoY=>4| .x6=>5| .order=>4| .apc=>2| .S2=>6| .fault=>5| .bool=>1| .ints=>1| .G2=>2| .ao9=>3| .fnc=>1| .holding=>4| .bl=>2| .dn=>2| .apa=>2| .al=>10| .refusal=>5| .range=>2| .ratio=>2| .apJ=>4| .x5=>11| .apn=>3| .apj=>14| .str=>1
theorem bG (k:Tag)(x:k.T):(cellsOf k x).length=aa k:=by cases k <;>rfl
def et:(k:Tag)->k.T
 | .reach=>(default:Reach)| .dd=>(default:aqa)| .apL=>(default:aqC)| .right=>(default:apu)| .apX=>(default:aqF)| .int=>(0:Int)| .ap2=>(default:aqD)| .part=>(default:Part)| .u0=>(default:bh)| .aoY=>(default:S1)| .x6=>(default:Claim)| .order=>(default:Order)| .apc=>(default:Int×Int)| .S2=>(default:M1)| .fault=>(default:T1)| .bool=>false| .ints=>(default:List Int)| .G2=>(default:X1)| .ao9=>(default:apk)| .fnc=>(default:Option Nat)| .holding=>(default:ao0)| .bl=>(default:ee)| .dn=>(default:pq)| .apa=>(default:aqg)| .al=>(default:ah)| .refusal=>(default:apf)| .range=>(default:Range)| .ratio=>(default:B1)| .apJ=>(default:B1×B1)| .x5=>(default:x4)| .apn=>(default:apE)| .apj=>(default:apU)| .str=>(ByteArray.mk #[])
inductive Kd where
 |s|b|n (k:IntKind) |r (k:Tag) |m (k k2:Tag) |f
def ot:Tag->Bool
 | .reach=>true| .dd=>true| .apL=>true| .right=>true| .apX=>true| .int=>false| .ap2=>true| .part=>true| .u0=>true| .aoY=>true| .x6=>true| .order=>true| .apc=>true| .S2=>true| .fault=>true| .bool=>false| .ints=>false| .G2=>true| .ao9=>true| .fnc=>false| .holding=>true| .bl=>true| .dn=>true| .apa=>true| .al=>true| .refusal=>true| .range=>true| .ratio=>true| .apJ=>true| .x5=>true| .apn=>true| .apj=>true| .str=>false
def LA:(k:Tag)->List (List k.T)->SV
 | .int,l=>.rs .ints l|_,_=>.any
def d_:Tag->List Kd
 | .reach=>[.s,.n .i64,.n .i64,.n .i64,.n .i64,.n .i64,.n .i64,.n .i64,.n .i64,.n .i64,.n .i64,.n .i64]| .dd=>[.s,.n .i64,.n .i64,.n .i64]| .apL=>[.s,.n .i64]| .right=>[.s,.n .i64,.n .i64,.n .i64,.n .i64,.n .i64,.n .i64,.n .i64,.n .i64,.n .i64]| .apX=>[.s,.n .i64,.n .i64,.n .i64]| .int=>[.n .i64]| .ap2=>[.n .i64,.n .i64,.n .i64,.r .int]| .part=>[.n .i64,.n .i64,.n .i64]| .u0=>[.n .i64,.n .i64,.n .i64,.n .i64,.n .i64,.r .part,.n .i64,.n .i64,.n .i64]| .aoY=>[.n .i64,.n .i64,.n .i64,.n .i64]| .x6=>[.n .i64,.n .i64,.n .i64,.n .i64,.n .i64]| .order=>[.n .i64,.n .i64,.n .i64,.b]| .apc=>[.n .i64,.n .i64]| .S2=>[.n .i64,.n .i64,.n .i64,.n .i64,.n .i64,.n .i64]| .fault=>[.n .i64,.n .i64,.n .i64,.n .i64,.n .i64]| .bool=>[.b]| .ints=>[.r .int]| .G2=>[.n .i64,.n .i64]| .ao9=>[.n .i64,.n .i64,.b]| .fnc=>[.f]| .holding=>[.n .i64,.n .i64,.n .i64,.n .i64]| .bl=>[.n .i64,.n .i64]| .dn=>[.n .i64,.n .i64]| .apa=>[.n .i64,.n .i64]| .al=>[.s,.n .i64,.n .i64,.n .i64,.r .reach,.r .dd,.r .apL,.r .right,.r .apX,.r .ap2]| .refusal=>[.r .int,.n .i64,.n .i64,.n .i64,.r .aoY]| .range=>[.n .i64,.n .i64]| .ratio=>[.n .i64,.n .i64]| .apJ=>[.n .i64,.n .i64,.n .i64,.n .i64]| .x5=>[.s,.n .i64,.n .i64,.n .i64,.r .reach,.r .dd,.r .apL,.r .right,.r .apX,.r .ap2,.r .x6]| .apn=>[.m .int .int,.m .G2 .bool,.m .G2 .bool]| .apj=>[.s,.n .i64,.n .i64,.n .i64,.r .reach,.r .dd,.r .apL,.r .right,.r .apX,.r .ap2,.r .order,.m .ao9 .int,.r .ints,.r .ints]| .str=>[.s]
def toI:SV->Int| .v (.int _ n) =>n|_=>0
def toB:SV->Bool| .v (.bool b) =>b|_=>false
def toS:SV->ByteArray| .v (.string s) =>s|_=>ByteArray.mk #[]
def toF:SV->Option Nat| .fn f [] [] =>some f|_=>none
def uh:SV->List Reach| .rs .reach l=>l|_=>[]
def wz:SV->List aqa| .rs .dd l=>l|_=>[]
def wA:SV->List aqC| .rs .apL l=>l|_=>[]
def ui:SV->List apu| .rs .right l=>l|_=>[]
def wB:SV->List aqF| .rs .apX l=>l|_=>[]
def zH:SV->List Int| .rs .int l=>l|_=>[]
def wC:SV->List aqD| .rs .ap2 l=>l|_=>[]
def D3:SV->List Part| .rs .part l=>l|_=>[]
def LB:SV->List bh| .rs .u0 l=>l|_=>[]
def yW:SV->List S1| .rs .aoY l=>l|_=>[]
def A5:SV->List Claim| .rs .x6 l=>l|_=>[]
def A6:SV->List Order| .rs .order l=>l|_=>[]
def LD:SV->List (Int×Int) | .rs .apc l=>l|_=>[]
def vW:SV->List M1| .rs .S2 l=>l|_=>[]
def Ii:SV->List T1| .rs .fault l=>l|_=>[]
def LF:SV->List Bool| .rs .bool l=>l|_=>[]
def zI:SV->List (List Int) | .rs .ints l=>l|_=>[]
def yz:SV->List X1| .rs .G2 l=>l|_=>[]
def uj:SV->List apk| .rs .ao9 l=>l|_=>[]
def Qi:SV->List (Option Nat) | .rs .fnc l=>l|_=>[]
def Cq:SV->List ao0| .rs .holding l=>l|_=>[]
def tG:SV->List ee| .rs .bl l=>l|_=>[]
def tH:SV->List pq| .rs .dn l=>l|_=>[]
def LG:SV->List aqg| .rs .apa l=>l|_=>[]
def zJ:SV->List ah| .rs .al l=>l|_=>[]
def Cr:SV->List apf| .rs .refusal l=>l|_=>[]
def Ij:SV->List Range| .rs .range l=>l|_=>[]
def Ik:SV->List B1| .rs .ratio l=>l|_=>[]
def D4:SV->List (B1×B1) | .rs .apJ l=>l|_=>[]
def vX:SV->List x4| .rs .x5 l=>l|_=>[]
def yA:SV->List apE| .rs .apn l=>l|_=>[]
def uk:SV->List apU| .rs .apj l=>l|_=>[]
def Qj:SV->List ByteArray| .rs .str l=>l|_=>[]
def lD:SV->List (apk×Int) | .rm .ao9 .int l=>l|_=>[]
def j_:SV->List (X1×Bool) | .rm .G2 .bool l=>l|_=>[]
def wD:SV->List (Int×Int) | .rm .int .int l=>l|_=>[]
def at0:List SV->Nat->SV
 | [],_=>.any|x::_,0=>x|_::r,n+1=>at0 r n
def mkE:(k:Tag)->List SV->k.T
 | .reach,l=>(⟨toS (at0 l 0),toI (at0 l 1),toI (at0 l 2),toI (at0 l 3),toI (at0 l 4),toI (at0 l 5),⟨toI (at0 l 6),toI (at0 l 7)⟩,(⟨toI (at0 l 8),toI (at0 l 9)⟩,⟨toI (at0 l 10),toI (at0 l 11)⟩)⟩:Reach)| .dd,l=>(⟨toS (at0 l 0),toI (at0 l 1),toI (at0 l 2),toI (at0 l 3)⟩:aqa)| .apL,l=>(⟨toS (at0 l 0),toI (at0 l 1)⟩:aqC)| .right,l=>(⟨toS (at0 l 0),toI (at0 l 1),toI (at0 l 2),toI (at0 l 3),toI (at0 l 4),toI (at0 l 5),toI (at0 l 6),toI (at0 l 7),toI (at0 l 8),toI (at0 l 9)⟩:apu)| .apX,l=>(⟨toS (at0 l 0),toI (at0 l 1),toI (at0 l 2),toI (at0 l 3)⟩:aqF)| .int,l=>(toI (at0 l 0):Int)| .ap2,l=>(⟨toI (at0 l 0),toI (at0 l 1),toI (at0 l 2),zH (at0 l 3)⟩:aqD)| .part,l=>(⟨toI (at0 l 0),⟨toI (at0 l 1),toI (at0 l 2)⟩⟩:Part)| .u0,l=>(⟨toI (at0 l 0),toI (at0 l 1),toI (at0 l 2),toI (at0 l 3),toI (at0 l 4),D3 (at0 l 5),toI (at0 l 6),toI (at0 l 7),toI (at0 l 8)⟩:bh)| .aoY,l=>(⟨toI (at0 l 0),toI (at0 l 1),toI (at0 l 2),toI (at0 l 3)⟩:S1)| .x6,l=>(⟨toI (at0 l 0),toI (at0 l 1),toI (at0 l 2),toI (at0 l 3),toI (at0 l 4)⟩:Claim)| .order,l=>(⟨toI (at0 l 0),toI (at0 l 1),toI (at0 l 2),toB (at0 l 3)⟩:Order)| .apc,l=>((toI (at0 l 0),toI (at0 l 1)):Int×Int)| .S2,l=>(⟨⟨toI (at0 l 0),toI (at0 l 1),toI (at0 l 2),toI (at0 l 3),toI (at0 l 4)⟩,toI (at0 l 5)⟩:M1)| .fault,l=>(⟨toI (at0 l 0),toI (at0 l 1),toI (at0 l 2),toI (at0 l 3),toI (at0 l 4)⟩:T1)| .bool,l=>(toB (at0 l 0):Bool)| .ints,l=>(zH (at0 l 0):List Int)| .G2,l=>(⟨toI (at0 l 0),toI (at0 l 1)⟩:X1)| .ao9,l=>(⟨toI (at0 l 0),toI (at0 l 1),toB (at0 l 2)⟩:apk)| .fnc,l=>(toF (at0 l 0):Option Nat)| .holding,l=>(⟨toI (at0 l 0),toI (at0 l 1),toI (at0 l 2),toI (at0 l 3)⟩:ao0)| .bl,l=>(⟨toI (at0 l 0),toI (at0 l 1)⟩:ee)| .dn,l=>(⟨toI (at0 l 0),toI (at0 l 1)⟩:pq)| .apa,l=>(⟨toI (at0 l 0),toI (at0 l 1)⟩:aqg)| .al,l=>(⟨toS (at0 l 0),toI (at0 l 1),⟨toI (at0 l 2),toI (at0 l 3)⟩,uh (at0 l 4),wz (at0 l 5),wA (at0 l 6),ui (at0 l 7),wB (at0 l 8),wC (at0 l 9)⟩:ah)| .refusal,l=>(⟨zH (at0 l 0),toI (at0 l 1),toI (at0 l 2),toI (at0 l 3),yW (at0 l 4)⟩:apf)| .range,l=>(⟨toI (at0 l 0),toI (at0 l 1)⟩:Range)| .ratio,l=>(⟨toI (at0 l 0),toI (at0 l 1)⟩:B1)| .apJ,l=>((⟨toI (at0 l 0),toI (at0 l 1)⟩,⟨toI (at0 l 2),toI (at0 l 3)⟩):B1×B1)| .x5,l=>(⟨⟨toS (at0 l 0),toI (at0 l 1),⟨toI (at0 l 2),toI (at0 l 3)⟩,uh (at0 l 4),wz (at0 l 5),wA (at0 l 6),ui (at0 l 7),wB (at0 l 8),wC (at0 l 9)⟩,A5 (at0 l 10)⟩:x4)| .apn,l=>(⟨wD (at0 l 0),j_ (at0 l 1),j_ (at0 l 2)⟩:apE)| .apj,l=>(⟨⟨toS (at0 l 0),toI (at0 l 1),⟨toI (at0 l 2),toI (at0 l 3)⟩,uh (at0 l 4),wz (at0 l 5),wA (at0 l 6),ui (at0 l 7),wB (at0 l 8),wC (at0 l 9)⟩,A6 (at0 l 10),lD (at0 l 11),zI (at0 l 12),zI (at0 l 13)⟩:apU)| .str,l=>(toS (at0 l 0):ByteArray)
def kN:IntKind->Nat
 | .i8=>0| .i16=>1| .i32=>2| .i64=>3| .u8=>4| .u16=>5| .u32=>6| .u64=>7
def fit:Kd->SV->Bool
 | .s,.v (.string _) =>true| .b,.v (.bool _) =>true| .n k,.v (.int k' _) =>Nat.beq (kN k) (kN k')| .r k,.rs k' _=>Nat.beq (zG k) (zG k')| .m k k2,.rm k' k2' _=>Nat.beq (zG k) (zG k')&&Nat.beq (zG k2) (zG k2')| .f,.fn _ [] [] =>true| .f,.v .nilFunc=>true|_,_=>false
def ul:List Kd->List SV->Bool
 | [],[] =>true|k::ks,x::xs=>fit k x&&ul ks xs|_,_=>false
def LH:Kd->SV->SV
 | .r k,.v (.slice none 0 0) =>.rs k []| .r k,.e0=>.rs k []| .m k k2,.v (.map none) =>.rm k k2 []|_,s=>s
def ye:List Kd->List SV->List SV
 |k::ks,s::r=>LH k s::ye ks r|_,l=>l
def vY (k:Tag)(l:List SV):Option k.T:=bif ul (d_ k) l then some (mkE k l)else none
def ou (k:Tag)(l:List SV):Option k.T:=vY k (ye (d_ k) l)
inductive Pk where
 |st (k:Tag)
 |sl (k:Tag)
 |mp (k k2:Tag)
 |o
def A7:Pk->SV->SV
 | .st k,.agg l=>.agg (ye (d_ k) l)| .sl k,s=>LH (.r k) s| .mp k k2,s=>LH (.m k k2) s|_,s=>s
def yX:List Pk->List SV->List SV
 |p::ps,s::r=>A7 p s::yX ps r|_,l=>l
structure TI where
 size:Nat
 bytes:Nat
 agg:Bool
 zero:List SV
 fields:List (Nat×Nat×Bool)
 elem:Nat
 len:Nat
 isSlice:Bool
 apZ:Bool
 tag:Option Tag
 int:Option IntKind
 iface:Bool
 eq:List Nat
 mkt:Option Tag
 mvt:Option Tag
 sc:Nat
def svs (v:Value):List SV:=v.cells.toList.map .v
def nX (P:Program)(t:TypeId):Nat:=match P.info? t with|some i=>i.size|none=>0
def ka (P:Program)(t:TypeId):Bool:=match P.underlying t with|some (.struct _) =>true|some (.array _ _) =>true|_=>false
def cq:Option TypeDesc->Nat
 |some (.int _) =>1|some .string=>2|some .bool=>3|_=>0
def eqFields (P:Program):Nat->List Field->Bool
 |_,[] =>true
 |n,f::r=>(f.name != "_")&&Nat.beq f.offset n&&Nat.blt 0 (cq (P.underlying f.type))&&eqFields P (n+1) r
def nO (P:Program)(t:TypeId)(d:TypeDesc):List Nat:=match d with
 | .struct fs=>bif !P.stoodInHeld t&& !P.eqGuardType P.depth t&&eqFields P 0 fs.toList then fs.toList.map λf=>cq (P.underlying f.type)else []
 | .array n e=>bif !P.eqGuardType P.depth t&&Nat.blt 0 (cq (P.underlying e))&&Nat.beq (nX P e) 1 then List.replicate n (cq (P.underlying e))else []|_=>[]
def qB (P:Program)(t:TypeId):List Nat:=match P.underlying t with
 |some (.struct gs) =>bif !P.stoodInHeld t&&eqFields P 0 gs.toList&&Nat.beq (nX P t) gs.size&&(P.info? t).isSome then gs.toList.map λf=>cq (P.underlying f.type)else []
 |d=>bif Nat.blt 0 (cq d)then [cq d]else []
def um (P:Program):Nat->List Field->Bool
 |_,[] =>true
 |n,f::r=>(f.name != "_")&&Nat.beq f.offset n&&Nat.blt 0 (qB P f.type).length&&um P (n+(qB P f.type).length) r
def Jw (P:Program)(t:TypeId)(d:TypeDesc):List Nat:=match d with
 | .struct fs=>bif !P.stoodInHeld t&& !P.eqGuardType P.depth t&&um P 0 fs.toList then fs.toList.flatMap λf=>qB P f.type else []
 |_=>[]
def TH (P:Program)(t:TypeId)(d:TypeDesc):List Nat:=match nO P t d with
 | [] =>Jw P t d|l=>l
def Qk:SV->SV->Bool
 | .v (.int k a),.v (.int k' b) =>Nat.beq (kN k) (kN k')&&(match a,b with| .ofNat 0,.ofNat 0=>true|_,_=>false)
 | .v (.string a),.v (.string b) =>Nat.beq a.size 0&&Nat.beq b.size 0| .v (.bool false),.v (.bool false) =>true| .rs _ [],.v (.slice none 0 0) =>true| .rm _ _ [],.v (.map none) =>true| .v .nilFunc,.v .nilFunc=>true|_,_=>false
def u7:List SV->List SV->Bool
 | [],[] =>true|a::r,b::s=>Qk a b&&u7 r s|_,_=>false
def C2:Bool->Bool->Bool
 |true,true=>true|false,false=>true|_,_=>false
def D5:Value->Bool
 | .agg _=>true|_=>false
def D6 (P:Program)(t:TypeId)(i:TypeInfo)(k:Tag):Bool:=
 (match i.zero with|some z=>C2 (D5 z) (ot k) |none=>false)&&Nat.beq i.size (aa k)&&Nat.ble 1 i.bytes&&u7 (cellsOf k (et k)) (match i.zero with|some z=>svs z|none=>[])&&C2 (ka P t) (ot k)
def yB (P:Program)(t:TypeId)(i:TypeInfo):Option Tag:=match Tag.ofName i.str with|some k=>bif D6 P t i k then some k else none|none=>none
def LI (P:Program)(t:TypeId):Option Tag:=match P.info? t with|some i=>yB P t i|none=>none
def jf:Kd->Nat
 | .n _=>1| .s=>2| .b=>3|_=>0
def D7:List Nat->List Nat->Bool
 | [],[] =>true|a::r,b::s=>Nat.beq a b&&D7 r s|_,_=>false
def Oa (P:Program)(t:TypeId)(k:Tag):Bool:=match P.underlying t with
 |some d=>bif ka P t then D7 ((d_ k).map jf) (nO P t d)&&Nat.blt 0 (d_ k).length else D7 ((d_ k).map jf) [cq (some d)]&&Nat.blt 0 (cq (some d))|none=>false
def LJ (P:Program)(t:TypeId):Option Tag:=match LI P t with|some k=>bif Oa P t k then some k else none|none=>none
def dG (P:Program)(t:TypeId)(i:TypeInfo)(d:TypeDesc):TI:=
 {size:=i.size
  bytes:=i.bytes
  agg:=ka P t
  zero:=match i.zero with|some z=>svs z|none=>[]
  fields:=match d with| .struct fs=>fs.toList.map λf=>(f.offset,nX P f.type,ka P f.type) |_=>[]
  elem:=match d with| .slice e=>e| .array _ e=>e| .map _ e=>e|_=>0
  len:=match d with| .array n _=>n|_=>0
  isSlice:=match d with| .slice _=>true|_=>false
  apZ:=match d with| .array _ _=>true|_=>false
  tag:=yB P t i
  int:=match d with| .int k=>some k|_=>none
  iface:=match d with| .interface _=>true|_=>false
  eq:=TH P t d
  mkt:=match d with| .map k _=>LJ P k|_=>none
  mvt:=match d with| .map _ e=>LI P e|_=>none
  sc:=cq (some d)}
def zK (P:Program)(d:TypeDesc):Bool:=match d with| .struct fs=>fs.toList.all λf=>(P.info? f.type).isSome&&(P.underlying f.type).isSome|_=>true
def jg (P:Program)(t:TypeId):Option TI:=
 match P.info? t,P.underlying t with
 |some i,some d=>bif i.zero.isSome&&zK P d then some (dG P t i d)else none|_,_=>none
abbrev Tis:=TypeId->Option TI
def Tis.ok (ts:Tis)(P:Program):Prop:= ∀ t i,ts t=some i->jg P t=some i
inductive Ob where
 |cells (l:List SV)
 |dead
 |row (k:Tag) (l:List k.T)
 |mp (kk vk:Tag) (l:List (kk.T×vk.T)) (ap1:Option (Nat×Option kk.T))
 |apw (k:Tag) (l:List (List k.T))
 |ab (r:Res)
 |raw (o:Obj)
 |mi (mid:Option Nat) (n:Nat) (left:List Nat) (cur:Option Nat)
 |fwd (n:Option Nat)
 |fz (k:Tag) (l:List k.T)
instance:Inhabited Ob:=⟨.dead⟩
structure St where
 t:List (Nat×SV)
 h:List Ob
 deriving Inhabited
def lk (t:Nat):List (Nat×SV)->SV
 | [] =>.any|(a,s)::r=>bif Nat.beq a t then s else lk t r
def St.put (st:St)(d:Option Nat)(s:SV):St:=match d with|some d=>⟨(d,s)::st.t,st.h⟩ |none=>st
def ap:List Ob->Nat->Ob
 | [],_=>.dead|o::_,0=>o|_::r,n+1=>ap r n
def cm:List Ob->Nat->Ob->List Ob
 | [],0,x=>[x]| [],n+1,x=>.dead::cm [] n x|_::r,0,x=>x::r|o::r,n+1,x=>o::cm r n x
abbrev Up:=Nat×Ob
def noE {κ:Type}:Option (Nat×Option κ)->Bool
 |some (_,some _) =>false|_=>true
def bb (h:List Ob):List Up->List Ob
 | [] =>h|(id,o)::r=>bb (cm h id o) r
inductive Con where
 |det (pre:Prop) (s:SV)
 |rel (α:Type) (pre:Prop) (post:α->Prop) (out:α->SV)
 |may (ok:Bool) (s:SV) (x:Value)
inductive Rs where
 |ret (s:SV) (h:List Ob)
 |pan (x:Value) (h:List Ob)
structure apd where
 α:Type
 pre:Prop
 post:α->Prop
 res:α->Rs
structure aqo where
 α:Type
 pre:Prop
 post:α->Prop
 res:α->Bool×Res
structure Cons where
 p:FuncId->List SV->Option Con
 o:FuncId->List SV->List Ob->Option apd
 y:List SV->Res->Option aqo
def pg:SV->Option (List SV)
 | .agg l=>some l| .v (.agg cs) =>some (cs.toList.map .v)| .v (.tuple _) =>none| .any=>none| .tup _=>none| .gd .. =>none| .nw .. =>none| .nm .. =>none| .ng .. =>none|s=>some [s]
def nth {α:Type}:List α->Nat->Option α
 | [],_=>none|x::_,0=>some x|_::r,n+1=>nth r n
def cut:Nat->List SV->List SV
 |0,_=>[]|_+1,[] =>[]|n+1,x::r=>x::cut n r
def LK:Nat->List SV->List SV
 |0,l=>l|_+1,[] =>[]|n+1,_::r=>LK n r
def sz:List SV->Nat
 | [] =>0|_::r=>sz r+1
def rf (agg:Bool)(size:Nat)(cells:List SV)(off:Nat):Option SV:=
 bif agg then(bif Nat.ble (off+size) (sz cells)then some (.agg (cut size (LK off cells)))else none)
 else nth cells off
def D8:List SV->Nat->SV->List SV
 | [],_,_=>[]|_::r,0,s=>s::r|x::r,n+1,s=>x::D8 r n s
def gK (cells:List SV)(off:Nat):List SV->List SV
 | [] =>cells|x::xs=>gK (D8 cells off x) (off+1) xs
section
variable {κ υ:Type}
def iv [DecidableEq κ]:List (κ×υ)->κ->Option υ
 | [],_=>none|(a,b)::r,x=>if x=a then some b else iv r x
def tA [DecidableEq κ]:List (κ×υ)->κ->υ->List (κ×υ)
 | [],x,y=>[(x,y)]|(a,b)::r,x,y=>if x=a then(x,y)::r else(a,b)::tA r x y
def Oc [DecidableEq κ]:List (κ×υ)->κ->Nat
 | [],_=>0|(a,_)::r,x=>if x=a then 0 else Oc r x+1
end
def aL (kk vk:Tag)(l:List (kk.T×vk.T))(x:kk.T):vk.T:=(iv l x).getD (et vk)
def wE (kk vk:Tag)(l:List (kk.T×vk.T))(x:kk.T):Bool:=(iv l x).isSome
def dH (kk vk:Tag)(l:List (kk.T×vk.T))(x:kk.T)(y:vk.T):List (kk.T×vk.T):=tA l x y
def A8 {κ υ:Type}[DecidableEq κ]:List (κ×υ)->κ->List (κ×υ)
 | [],_=>[]|(a,b)::r,x=>if x=a then r else(a,b)::A8 r x
def su (kk vk:Tag)(l:List (kk.T×vk.T))(x:kk.T):List (kk.T×vk.T):=A8 l x
def un (kk vk:Tag)(l:List (kk.T×vk.T))(x:kk.T):Nat:=Oc l x
def afO (kk vk:Tag)(l:List (kk.T×vk.T))(x:kk.T):Option kk.T:=if(iv l x).isSome then none else some x
def svT (k:Tag)(x:k.T):SV:=bif ot k then .agg (cellsOf k x)else(nth (cellsOf k x) 0).getD .any
def Cs (k:Tag):Option (List SV)->Option k.T
 |some l=>ou k l|none=>none
def zL:SV->Option (List SV)
 | .agg l=>some l| .v (.agg cs) =>some (cs.toList.map .v)|_=>none
def A9:SV->Option (List SV)
 | .agg _=>none| .v (.agg _) =>none|s=>pg s
def unT (k:Tag)(s:SV):Option k.T:=bif ot k then Cs k (zL s)else Cs k (A9 s)
inductive OR where
 |val (s:SV)
 |chk (c:Prop) (s:SV)
 |asm (c:Prop) (s:SV)
 |apY (s:SV)
 |eff (c a:Prop) (ups:List Up) (s:SV)
 |call (f:FuncId) (args:List SV)
 |yld (id:Nat) (args:List SV)
 |nxt (id:Nat)
 |amb (p:Bool->Prop)
 |pan (x:Value)
 |bad
structure Cx where
 ts:Tis
 ops:List Oper
 g:Option (Nat×Bool)
 st:St
 nx:Nat
def rJ (ops:List Oper):Nat->Option (Nat×Bool)->Nat->Bool->Bool
 |0,_,_,_=>false|_+1,none,_,_=>false|n+1,some (j,b),j',b'=>bif Nat.beq j j'&&C2 b b' then true else rJ ops n ((nth ops j).bind (·.guard)) j' b'
def bH (ops:List Oper)(g:Option (Nat×Bool)):SV->SV
 | .gd j b s=>bif rJ ops ops.length g j b then s else .any| .any=>.any| .v x=>.v x| .ptr a b=>.ptr a b| .os a=>.os a| .e0=>.e0| .rc a b=>.rc a b| .rp a b c d=>.rp a b c d| .gr a b=>.gr a b| .gp a b c d e=>.gp a b c d e| .ep a b=>.ep a b| .rs k l=>.rs k l| .ls s l=>.ls s l| .rm k k2 l=>.rm k k2 l| .agg l=>.agg l| .tup l=>.tup l| .fn f l m=>.fn f l m| .nw k l=>.nw k l| .nm k k2 l=>.nm k k2 l| .ng k l=>.ng k l| .vw a b c d=>.vw a b c d
def raw (t:List (Nat×SV)):Operand->SV
 | .tmp n=>lk n t| .const x=>.v x| .func f=>.fn f [] []| .global _=>.any
def val (cx:Cx)(x:Operand):SV:=bH cx.ops cx.g (raw cx.st.t x)
def dm (cx:Cx):List Operand->List SV
 | [] =>[]|x::r=>val cx x::dm cx r
def ov (cx:Cx):Option Operand->Option SV
 |some x=>some (val cx x)|none=>none
def iD (cx:Cx):List (Nat×Operand)->List (Nat×SV)
 | [] =>[]|(i,x)::r=>(i,val cx x)::iD cx r
def D9:Operand->Bool
 | .const (.bool true) =>true|_=>false
def zM:Operand->Bool
 | .const (.bool false) =>true|_=>false
def LL (ops:List Oper)(j:Nat)(c:Operand):Bool:=
 match (nth ops j).bind (·.dst),c with
 |some d,.tmp t=>Nat.beq d t|_,_=>false
def ky (ops:List Oper)(g:Option (Nat×Bool))(c:Operand)(want:Bool):SV->SV
 | .gd j b s=>bif C2 b want&&LL ops j c then s else bH ops g (.gd j b s)|s=>bH ops g s
def D_ (a b:Operand):SV->SV->SV->OR
 | .v (.bool x),.v (.bool y),.v (.bool z) =>bif D9 a then .val (.b (x||z))else bif zM b then .val (.b (x&&y))else .bad| .v (.bool x),.any,.v (.bool z) =>.chk (x=false) (.b z)| .v (.bool x),.v (.bool y),.any=>.chk (x=true) (.b y)|_,_,_=>.bad
def lp (k:IntKind)(a b:Int):Int:=a.fdiv (2 ^ min b.toNat k.bits)
def afP (k:IntKind)(a b:Int):Int:=k.wrap (a*2 ^ min b.toNat k.bits)
def XK (k:IntKind)(a b:Int):Int:=k.wrap ((BitVec.ofInt k.bits a&&&BitVec.ofInt k.bits b).toNat:Int)
def orI (k:IntKind)(a b:Int):Int:=k.wrap ((BitVec.ofInt k.bits a|||BitVec.ofInt k.bits b).toNat:Int)
def afQ (k:IntKind)(a b:Int):Int:=k.wrap ((BitVec.ofInt k.bits a ^^^ BitVec.ofInt k.bits b).toNat:Int)
def Ql (k:IntKind)(a b:Int):Int:=k.wrap ((BitVec.ofInt k.bits a&&& ~~~(BitVec.ofInt k.bits b)).toNat:Int)
def uo (op:BinOp)(k:IntKind)(a b:Int):OR:=
 match op with
 | .add=>.val (.v (.int k (k.wrap (a+b))))| .sub=>.val (.v (.int k (k.wrap (a - b))))| .mul=>.val (.v (.int k (k.wrap (a*b))))| .quo=>.chk (b≠0) (.v (.int k (k.wrap (a.tdiv b))))| .rem=>.chk (b≠0) (.v (.int k (a.tmod b)))| .shr=>.chk (0<=b) (.v (.int k (lp k a b)))| .shl=>.chk (0<=b) (.v (.int k (afP k a b)))| .and=>.val (.v (.int k (XK k a b)))| .or=>.val (.v (.int k (orI k a b)))| .xor=>.val (.v (.int k (afQ k a b)))| .andNot=>.val (.v (.int k (Ql k a b)))| .eql=>.val (.v (.bool (a==b)))| .neq=>.val (.v (.bool (a !=b)))| .lss=>.val (.v (.bool (decide (a<b))))| .leq=>.val (.v (.bool (decide (a<=b))))| .gtr=>.val (.v (.bool (decide (a > b))))| .geq=>.val (.v (.bool (decide (a>=b))))
def Qm (op:BinOp)(a b:ByteArray):OR:=
 match op with
 | .eql=>.val (.v (.bool (a==b)))| .neq=>.val (.v (.bool (a !=b)))|_=>.bad
def Jx (op:BinOp)(a b:Bool):OR:=
 match op with
 | .eql=>.val (.v (.bool (a==b)))| .neq=>.val (.v (.bool (a !=b)))|_=>.bad
def eqV (c:Nat):SV->SV->Option Bool
 | .v (.int k a),.v (.int k' b) =>bif Nat.beq c 1&&Nat.beq (kN k) (kN k')then some (a==b)else none| .v (.string a),.v (.string b) =>bif Nat.beq c 2 then some (a==b)else none| .v (.bool a),.v (.bool b) =>bif Nat.beq c 3 then some (a==b)else none|_,_=>none
def yY:Option Bool->Option Bool->Option Bool
 |some a,some b=>some (a&&b)|_,_=>none
def eqL:List Nat->List SV->List SV->Option Bool
 | [],[],[] =>some true|c::cs,x::r,y::s=>yY (eqV c x y) (eqL cs r s)|_,_,_=>none
def eqO (op:BinOp):Option Bool->OR
 |some b=>match op with| .eql=>.val (.v (.bool b)) | .neq=>.val (.v (.bool !b)) |_=>.bad
 |none=>.bad
def aaN (op:BinOp)(l m:List SV):List Nat->OR
 | [] =>.bad|c::cs=>eqO op (eqL (c::cs) l m)
def aJ (ts:Tis)(t:TypeId)(k:TI->OR):OR:=match ts t with|some i=>k i|none=>.bad
def eqT (op:BinOp)(l m:List SV)(ti:TI):OR:=aaN op l m ti.eq
def Ct (op:BinOp)(k k':IntKind):Bool:=
 match op with
 | .shl=>true| .shr=>true|_=>Nat.beq (kN k) (kN k')
def aaO (op:BinOp):SV->SV->OR
 | .v (.int k a),.v (.int k' b) =>bif Ct op k k' then uo op k a b else .bad|_,_=>.bad
def XL (op:BinOp)(p:Prop):OR:=
 match op with
 | .eql=>.amb λb=>b=true->p
 | .neq=>.amb λb=>b=false->p
 |_=>.bad
def eqS (op:BinOp)(ti:TI):SV->SV->OR
 | .rs _ l,.v (.slice none 0 0) =>bif ti.isSlice then XL op (l=[])else .bad| .v (.string a),.v (.string b) =>bif Nat.beq ti.sc 2 then Qm op a b else .bad| .v (.bool a),.v (.bool b) =>bif Nat.beq ti.sc 3 then Jx op a b else .bad| .agg l,.agg m=>eqT op l m ti|_,_=>.bad
def Jy (ts:Tis)(op:BinOp)(t:TypeId):SV->SV->OR
 | .v (.int k a),.v (.int k' b) =>aaO op (.v (.int k a)) (.v (.int k' b))
 |a,b=>aJ ts t λti=>eqS op ti a b
def unS:UnOp->SV->OR
 | .not,.v (.bool b) =>.val (.v (.bool !b))| .neg,.v (.int k n) =>.val (.v (.int k (k.wrap (0 - n))))|_,_=>.bad
def uq:Option SV->OR
 |some s=>.val s|none=>.bad
def Ea (agg:Bool)(size szt:Nat)(id:Nat)(i:Int)(off:Nat):Ob->OR
 | .row k l=>bif Nat.beq szt (aa k)then uq (rf agg size (cellsOf k (l.getD i.toNat (et k))) off)else .bad| .apw _ _=>bif Nat.beq szt 1&&Nat.beq off 0&& !agg then .val (.gr id i)else .bad|_=>.bad
def A_ (agg:Bool)(size szt:Nat)(i j:Int)(off:Nat):Ob->OR
 | .apw k l=>bif Nat.beq szt (aa k)then uq (rf agg size (cellsOf k ((l.getD i.toNat []).getD j.toNat (et k))) off)else .bad|_=>.bad
def zN (agg:Bool)(size off:Nat):Ob->OR
 | .cells l=>uq (rf agg size l off)|_=>.bad
def qC (ti:TI)(h:List Ob):SV->OR
 | .ptr id off=>zN ti.agg ti.size off (ap h id)| .ep l off=>uq (rf ti.agg ti.size l off)| .rp s id i off=>Ea ti.agg ti.size s id i off (ap h id)| .gp s id i j off=>A_ ti.agg ti.size s i j off (ap h id)|_=>.bad
def Ba (n:Nat):SV->OR
 | .ptr id off=>.val (.ptr id (off+n))| .ep l off=>.val (.ep l (off+n))| .rp s id i off=>.val (.rp s id i (off+n))| .gp s id i j off=>.val (.gp s id i j (off+n))|_=>.bad
def Jz (esz id:Nat)(i:Int):Ob->OR
 | .row k l=>bif Nat.beq esz (aa k)then .chk (0<=i/\i< (l.length:Int)) (.rp esz id i 0)else .bad| .apw _ l=>bif Nat.beq esz 1 then .chk (0<=i/\i< (l.length:Int)) (.rp 1 id i 0)else .bad|_=>.bad
def Od (esz id:Nat)(i j:Int):Ob->OR
 | .apw k l=>bif Nat.beq esz (aa k)then .chk (0<=j/\j< ((l.getD i.toNat []).length:Int)) (.gp esz id i j 0)else .bad|_=>.bad
def Oe (i:Int)(s:Nat)(l:List SV):OR:=bif Nat.ble 1 s&&Nat.ble (i.toNat*s+s) (sz l)then .chk (0<=i) (.ep l (i.toNat*s))else .bad
def ii (ti:TI)(esz:Nat)(h:List Ob):SV->SV->OR
 | .rs k l,.v (.int _ i) =>bif ti.isSlice&&Nat.beq esz (aa k)then .chk (0<=i/\i< (l.length:Int)) (.ep (cellsOf k (l.getD i.toNat (et k))) 0)else .bad| .os id,.v (.int _ i) =>bif ti.isSlice then Jz esz id i (ap h id)else .bad| .gr id i,.v (.int _ j) =>bif ti.isSlice then Od esz id i j (ap h id)else .bad| .ls s l,.v (.int _ i) =>bif ti.isSlice&&Nat.beq esz s then Oe i s l else .bad| .ptr id off,.v (.int _ i) =>bif ti.apZ then .chk (0<=i/\i< (ti.len:Int)) (.ptr id (off+i.toNat*esz))else .bad| .ep l off,.v (.int _ i) =>bif ti.apZ then .chk (0<=i/\i< (ti.len:Int)) (.ep l (off+i.toNat*esz))else .bad| .rp s id i off,.v (.int _ j) =>bif ti.apZ then .chk (0<=j/\j< (ti.len:Int)) (.rp s id i (off+j.toNat*esz))else .bad|_,_=>.bad
def lE (place:Nat->Option (Nat×Nat))(cells:List SV):List (Nat×SV)->Option (List SV)
 | [] =>some cells
 |(i,v)::rest=>
  match place i,pg v with
  |some (off,size),some vs=>bif Nat.beq (sz vs) size&&Nat.ble (off+size) (sz cells)then lE place (gK cells off vs) rest else none|_,_=>none
def rG (k:Tag)(size:Nat):Nat->List SV->Option (List k.T)
 |0,_=>some []
 |n+1,cells=>match ou k (cut size cells),rG k size n (LK size cells)with
  |some x,some xs=>some (x::xs)|_,_=>none
def C3 (n:Nat)(z:List SV):List SV:=match n with|0=>[] |n+1=>z++C3 n z
def sw (f:Option (Nat×Nat×Bool))(l:Option (List SV)):OR:=
 match f,l with
 |some (o,n,g),some l=>uq (rf g n l o)|_,_=>.bad
def Of:SV->Bool
 | .v (.agg _) =>false| .v (.tuple _) =>false| .any=>false| .agg _=>false| .tup _=>false| .gd .. =>false| .nw .. =>false| .nm .. =>false| .ng .. =>false|_=>true
def u9:List SV->Bool
 | [] =>true|x::r=>Of x&&u9 r
def Og (k:Tag)(id:Nat)(i:Int)(l:List k.T):Option k.T->OR
 |some x=>.eff True True [(id,.row k (l.set i.toNat x))] .any|none=>.bad
def JA (k:Tag)(id:Nat)(i j:Int)(l:List (List k.T)):Option k.T->OR
 |some x=>.eff True True [(id,.apw k (l.set i.toNat ((l.getD i.toNat []).set j.toNat x)))] .any|none=>.bad
def Oh (id off:Nat)(vs:List SV):Ob->OR
 | .cells l=>bif Nat.ble (off+sz vs) (sz l)&&u9 vs then .eff True True [(id,.cells (gK l off vs))] .any else .bad|_=>.bad
def Oi (s id:Nat)(i:Int)(off:Nat)(vs:List SV):Ob->OR
 | .row k l=>bif Nat.beq s (aa k)&&Nat.ble (off+sz vs) s then Og k id i l (ou k (gK (cellsOf k (l.getD i.toNat (et k))) off vs))else .bad|_=>.bad
def Oj (s id:Nat)(i j:Int)(off:Nat)(vs:List SV):Ob->OR
 | .apw k l=>bif Nat.beq s (aa k)&&Nat.ble (off+sz vs) s then JA k id i j l (ou k (gK (cellsOf k ((l.getD i.toNat []).getD j.toNat (et k))) off vs))else .bad|_=>.bad
def rg (size:Nat)(h:List Ob):SV->Option (List SV)->OR
 | .ptr id off,some vs=>bif Nat.beq (sz vs) size then Oh id off vs (ap h id)else .bad| .rp s id i off,some vs=>bif Nat.beq (sz vs) size then Oi s id i off vs (ap h id)else .bad| .gp s id i j off,some vs=>bif Nat.beq (sz vs) size then Oj s id i j off vs (ap h id)else .bad|_,_=>.bad
def JB:Ob->Bool
 | .apw _ _=>true|_=>false
def TJ (k:Tag)(nx id rid:Nat)(i:Int)(l:List (List k.T)):Option (List k.T)->OR
 |some m=>.eff True True [(id,.dead),(rid,.dead),(nx,.apw k (l.set i.toNat m)),(id,.fwd (some nx))] .any|none=>.bad
def Ok (k:Tag):Ob->Option (List k.T)
 | .row k' l=>if h:k'=k then some (h▸l)else none|_=>none
def Eb (nx:Nat)(h:List Ob)(id rid:Nat)(i:Int):Ob->OR
 | .apw k l=>TJ k nx id rid i l (Ok k (ap h rid))|_=>.bad
def rh (size nx:Nat)(h:List Ob):SV->SV->OR
 | .rp s id i off,.os rid=>bif JB (ap h id)then(bif Nat.beq size 1&&Nat.beq s 1&&Nat.beq off 0&& !(Nat.beq id rid)then Eb nx h id rid i (ap h id)else .bad)else rg size h (.rp s id i off) (pg (.os rid))|a,x=>rg size h a (pg x)
def TK:SV->OR
 | .ptr id off=>.val (.ptr id off)| .ep l off=>.val (.ep l off)| .rp a b c d=>.val (.rp a b c d)| .gp a b c d e=>.val (.gp a b c d e)
 | .fn f first caps=>.val (.fn f first caps)
 |_=>.bad
def LM:Option IntKind->SV->OR
 |some k,.v (.int _ n) =>.val (.v (.int k (k.wrap n)))|_,_=>.bad
def JD (nx:Nat):Option (List SV)->OR
 |some l=>.eff True True [(nx,.cells l)] (.ptr nx 0)|none=>.bad
def Ol:Option (List SV)->OR
 |some l=>.val (.agg l)|none=>.bad
def TL (k:Tag):Option (List k.T)->OR
 |some xs=>.apY (.rs k xs)|none=>.bad
def lsS (n s:Nat)(l:List SV):OR:=bif Nat.beq (sz l) (n*s)&&u9 l then .apY (.ls s l)else .bad
def bsT (k:Tag)(ti te:TI)(n:Nat):Option (List SV)->OR
 |some l=>bif Nat.beq te.size (aa k)&&ti.isSlice&&Nat.ble (n*te.size) 16777216&&Nat.beq (sz te.zero) te.size then TL k (rG k te.size n l)else .bad|none=>.bad
def bsU (ti te:TI)(n:Nat):Option (List SV)->OR
 |some l=>bif ti.isSlice&&Nat.ble 1 te.size&&Nat.ble (n*te.size) 16777216&&Nat.beq (sz te.zero) te.size then lsS n te.size l else .bad|none=>.bad
def noG:Option (Nat×Bool)->Bool
 |none=>true|some _=>false
def afR:Op->Bool
 | .call ⟨.value _,_,_⟩ =>true|_=>false
def afS:Op->Bool
 | .call ⟨.builtin .append,_,_⟩ =>true|_=>false
def TM:List Oper->Bool
 | [] =>false
 |o::r=>afR o.op||TM r
def Qn:List Oper->Bool
 | [] =>false
 |o::r=>afS o.op||Qn r
def afT:Op->Bool
 | .call ⟨.builtin .clear,_,_⟩ =>true|_=>false
def TN:List Oper->Bool
 | [] =>false
 |o::r=>afT o.op||TN r
def aaP:Op->Bool
 | .slice .. =>true|_=>false
def Om:List Oper->Bool
 | [] =>false| [o] =>aaP o.op|_::r=>Om r
def Qo:List Oper->List Nat
 | [] =>[]|o::r=>bif aaP o.op then o.dst.toList++Qo r else Qo r
def LN (ds:List Nat):List Operand->Bool
 | [] =>false
 | .tmp d::r=>ds.any (Nat.beq d) ||LN ds r
 |_::r=>LN ds r
def TO:Op->List Operand
 | .call ⟨.value _,args,_⟩ =>args.toList|_=>[]
def aaQ (ds:List Nat):List Oper->Bool
 | [] =>false
 |o::r=>LN ds (TO o.op) ||aaQ ds r
def LO (ops:List Oper):Bool:=Qn ops||TN ops||Om ops||aaQ (Qo ops) ops
def afU (ops:List Oper)(g:Option (Nat×Bool)):Option (Nat×Bool):=bif Qn ops&&TM ops then some (0,true)else g
def aaR:List (Nat×Operand)->List Operand
 | [] =>[]|(_,x)::r=>x::aaR r
def TP:Op->List Operand
 | .build _ parts=>aaR parts.toList|_=>[]
def aaS (ds:List Nat):List Oper->Bool
 | [] =>false
 |o::r=>LN ds (TP o.op) ||aaS ds r
def afV (t:TypeId):Op->Bool
 | .buildSlice t' _ _=>Nat.beq t t'|_=>false
def Qp (t:TypeId):List Oper->List Nat
 | [] =>[]|o::r=>bif afV t o.op then o.dst.toList++Qp t r else Qp t r
def ZM:Bool:=false
def JE (t:TypeId)(ops:List Oper)(g:Option (Nat×Bool)):Option (Nat×Bool):=bif ZM&&aaS (Qp t ops) ops then some (0,true)else afU ops g
def afW:SV->Bool
 | .os _=>true|_=>false
def osL:List SV->Bool
 | [] =>false
 |s::r=>afW s||osL r
def osV:SV->Bool
 | .os _=>true| .agg l=>osL l|_=>false
def XM:List (Nat×SV)->Bool
 | [] =>false
 |(_,s)::r=>osV s||XM r
def bsG (ti te:TI)(n:Nat)(l:Option (List SV))(os:Bool):Option Tag->OR
 |some k=>bif os then bsU ti te n l else bsT k ti te n l|none=>bsU ti te n l
def ZN:List Kd->Bool
 | [.f] =>true|_=>false
def aaT:Option Tag->Option Tag
 |some k=>bif ZN (d_ k)then none else some k|none=>none
def bsS (ti te:TI)(n:Nat)(parts:List (Nat×SV)):OR:=
 bif Nat.beq n 0 then(bif ti.isSlice&&parts.isEmpty then .apY .e0 else .bad)
 else bsG ti te n (lE (λi=>some (i*te.size,te.size)) (C3 n te.zero) parts) (XM parts) (aaT te.tag)
def one {α:Type}:List α->Bool
 | [_] =>true|_=>false
def Hg (g:Option (Nat×Bool))(nx:Nat)(te:TI):OR->OR
 | .apY (.rs k l) =>bif(te.agg||one l)&&noG g then .eff True True [(nx,.row k l)] (.os nx)else .apY (.rs k l)|r=>r
def TQ (i:Nat):SV->OR
 | .tup l=>uq (nth l i)|_=>.bad
def zO (args:List SV):SV->OR
 | .fn g first caps=>.call g (first++args++caps)
 | .os id=>.yld id args|_=>.bad
def aH:Nat:=140737488355328
def XN:Ob->OR
 | .row _ l=>.asm (l.length<=aH) (.i l.length)| .apw _ l=>.asm (l.length<=aH) (.i l.length)|_=>.bad
def aaU (i:Int):Ob->OR
 | .apw _ l=>.asm ((l.getD i.toNat []).length<=aH) (.i (l.getD i.toNat []).length)|_=>.bad
def aaV (m:Option Tag):Ob->OR
 | .mp _ _ l p=>bif m.isSome&&noE p then .val (.i l.length)else .bad|_=>.bad
def ua (ti:TI)(h:List Ob):List SV->OR
 | [.rs _ l] =>bif ti.isSlice then .asm (l.length<=aH) (.i l.length)else .bad| [.v (.slice none 0 0)] =>bif ti.isSlice then .val (.i 0)else .bad| [.e0] =>bif ti.isSlice then .val (.i 0)else .bad| [.rc _ l] =>bif ti.isSlice then .asm (l.length<=aH) (.i l.length)else .bad| [.os id] =>bif ti.isSlice then XN (ap h id)else aaV ti.mkt (ap h id)| [.gr id i] =>bif ti.isSlice then aaU i (ap h id)else .bad| [.ls s l] =>bif ti.isSlice&&Nat.ble 1 s then .val (.i ((sz l / s:Nat):Int))else .bad|_=>.bad
def JF:List SV->OR
 | [.v (.int k a),.v (.int _ b)] =>.val (.v (.int k (if b<a then b else a)))|_=>.bad
def JG:List SV->OR
 | [.v (.int k a),.v (.int _ b)] =>.val (.v (.int k (if a<b then b else a)))|_=>.bad
def TR:SV->OR
 | .v (.iface t y) =>.pan (.iface t y)|_=>.bad
def Ec (t:TypeId):SV->OR
 | .v (.int k n) =>.val (.v (.iface t (.int k n)))|_=>.bad
def LP (fn:Fn)(first caps:List SV):OR:=
 match fn with
 | .func f=>.val (.fn f first caps)
 |_=>.bad
def dI:Nat:=140737488355328
def Qq (a:Tag):Option Tag->Bool
 |some b=>Nat.beq (zG a) (zG b)|none=>false
def zP (k:Tag)(k':Tag)(l:List k'.T):Option (List k.T):=if h:k'=k then some (h▸l)else none
def TS (k:Tag):Ob->Option (List k.T)
 | .row k' l=>zP k k' l|_=>none
def aaW (k:Tag)(s:Nat)(lo hi:Int):Ob->Option (List k.T)
 | .row k' l=>bif Nat.beq s (aa k')then zP k k' ((l.take hi.toNat).drop lo.toNat)else none|_=>none
def ur (k:Tag)(h:List Ob):SV->Option (List k.T)
 | .rs k' l=>zP k k' l| .v (.slice none 0 0) =>some []| .e0=>some []| .os id=>TS k (ap h id)| .vw s id lo hi=>aaW k s lo hi (ap h id)|_=>none
def TT (k:Tag)(nx bytes:Nat)(kill:List Up)(l:List k.T):Option (List k.T)->OR
 |some m=>.eff ((l++m).length*bytes<=dI) ((l++m).length<=aH) (kill++[(nx,.row k (l++m))]) (.os nx)|none=>.bad
def wh (te:TI)(nx:Nat)(kill:List Up)(h:List Ob)(src:SV):Ob->OR
 | .row k l=>bif Nat.beq te.size (aa k)&&Nat.beq (sz te.zero) te.size&&Nat.ble 1 te.bytes then TT k nx te.bytes kill l (ur k h src)else .bad|_=>.bad
def Ed (k:Tag)(nx bytes id2:Nat)(kill:List Up)(l:List (List k.T)):Option (List k.T)->OR
 |some m=>.eff ((l++[m]).length*bytes<=dI) ((l++[m]).length<=aH) (kill++[(id2,.dead),(nx,.apw k (l++[m]))]) (.os nx)|none=>.bad
def Ee (nx bytes:Nat)(h:List Ob)(id2:Nat)(kill:List Up):Ob->OR
 | .apw k l=>Ed k nx bytes id2 kill l (TS k (ap h id2))|_=>.bad
def XO (nx bytes id2:Nat):Ob->OR
 | .row k m=>Ed k nx bytes id2 [] [] (some m)|_=>.bad
def u_ (te:TI)(nx:Nat)(h:List Ob)(src:SV):Option Tag->OR
 |some k=>wh te nx [] h src (.row k [])|none=>.bad
def XP (te:TI)(id:Nat):Ob->OR
 | .row k l=>bif Nat.beq te.size (aa k)&&Nat.beq (sz te.zero) te.size&&Nat.ble 1 te.bytes then .eff ((l++l).length*te.bytes<=dI) ((l++l).length<=aH) [(id,.fz k l)] (.rs k (l++l))else .bad|_=>.bad
def On {α:Type}:List α->Bool
 | [] =>false|_=>true
def TU (k:Tag)(bytes:Nat)(l:List k.T):Option (List k.T)->OR
 |some m=>bif On m then .eff ((l++m).length*bytes<=dI) ((l++m).length<=aH) [] (.rs k (l++m))else .bad|none=>.bad
def XQ (te:TI)(h:List Ob)(src:SV)(k:Tag)(l:List k.T):OR:=bif Nat.beq te.size (aa k)&&Nat.beq (sz te.zero) te.size&&Nat.ble 1 te.bytes then TU k te.bytes l (ur k h src)else .bad
def ml (te:TI)(nx:Nat)(h:List Ob):List SV->OR
 | [.os id,.ls 1 [.os id2]] =>bif Nat.beq te.size 1&&Nat.beq (sz te.zero) 1&&Nat.ble 1 te.bytes&& !(Nat.beq id id2)then Ee nx te.bytes h id2 [(id,.dead)] (ap h id)else .bad| [.v (.slice none 0 0),.ls 1 [.os id2]] =>bif Nat.beq te.size 1&&Nat.beq (sz te.zero) 1&&Nat.ble 1 te.bytes then XO nx te.bytes id2 (ap h id2)else .bad| [.os id,.os id2] =>bif Nat.beq id id2 then XP te id (ap h id)else wh te nx [(id,.dead)] h (.os id2) (ap h id)| [.os id,src] =>wh te nx [(id,.dead)] h src (ap h id)| [.v (.slice none 0 0),src] =>u_ te nx h src te.tag| [.e0,src] =>u_ te nx h src te.tag| [.rc k l,src] =>XQ te h src k l|_=>.bad
def wF (k:Tag)(l:List k.T)(lo hi:Int):List k.T:=if hi.toNat<=lo.toNat then l else l.take lo.toNat++List.replicate (hi.toNat - lo.toNat) (et k)++l.drop hi.toNat
def aaX (te:TI)(s id:Nat)(lo hi:Int):Ob->OR
 | .row k l=>bif Nat.beq s (aa k)&&Qq k te.tag then .eff True True [(id,.row k (wF k l lo hi))] .any else .bad|_=>.bad
def yZ (ti te:TI)(h:List Ob):List SV->OR
 | [.vw s id lo hi] =>bif ti.isSlice then aaX te s id lo hi (ap h id)else .bad|_=>.bad
def mkT (nx:Nat)(n c:Int)(te:TI):Option Tag->OR
 |some k=>.eff (n=c/\0<=n/\n*te.bytes<=dI) (n<=aH) [(nx,.row k (List.replicate n.toNat (et k)))] (.os nx)|none=>.bad
def mkS (nx:Nat)(te:TI):SV->SV->OR
 | .v (.int .i64 n),.v (.int .i64 c) =>mkT nx n c te te.tag|_,_=>.bad
def XR:List SV->Bool
 | [.v (.slice none 0 0)] =>true|_=>false
def XS (nx:Nat)(n c:Int)(te:TI):Option Tag->OR
 |some k=>bif Nat.beq te.size 1&&XR te.zero&&Nat.ble 1 te.bytes then .eff (n=c/\0<=n/\n*te.bytes<=dI) (n<=aH) [(nx,.apw k (List.replicate n.toNat []))] (.os nx)else .bad|none=>.bad
def Hh (nx:Nat)(te tr:TI):SV->SV->OR
 | .v (.int .i64 n),.v (.int .i64 c) =>XS nx n c te tr.tag|_,_=>.bad
def bnd (d:Int):Option SV->Option Int
 |none=>some d|some (.v (.int _ n)) =>some n|_=>none
def XT (k:Tag)(l:List k.T):Option Int->Option Int->OR
 |some lo,some hi=>.chk (0<=lo/\lo<=hi/\hi<=(l.length:Int)) (.rs k ((l.take hi.toNat).drop lo.toNat))|_,_=>.bad
def XU (id nx:Nat)(k:Tag)(l:List k.T):Option Int->Option Int->OR
 |some lo,some hi=>.eff (0<=lo/\lo<=hi/\hi<=(l.length:Int)) True [(id,.dead),(nx,.row k ((l.take hi.toNat).drop lo.toNat))] (.os nx)|_,_=>.bad
def XV (esz id nx:Nat)(lo hi:Option SV):Ob->OR
 | .row k l=>bif Nat.beq esz (aa k)then XU id nx k l (bnd 0 lo) (bnd l.length hi)else .bad|_=>.bad
def TV (esz id n:Nat):Option Int->OR
 |some a=>.chk (0<=a/\a<=(n:Int)) (.vw esz id a n)|none=>.bad
def TW (esz id:Nat)(lo:Option SV):Ob->OR
 | .row k l=>bif Nat.beq esz (aa k)then TV esz id l.length (bnd 0 lo)else .bad|_=>.bad
def mH (ti:TI)(esz nx:Nat)(h:List Ob)(lo hi:Option SV)(vq:Bool):SV->OR
 | .rs k l=>bif ti.isSlice&&Nat.beq esz (aa k)then XT k l (bnd 0 lo) (bnd l.length hi)else .bad| .os id=>bif ti.isSlice then(bif vq then TW esz id lo (ap h id)else XV esz id nx lo hi (ap h id))else .bad|_=>.bad
def ZO (ti:TI):Option SV->Option SV->SV->SV->OR
 |none,some (.v (.int .i64 0)),.v (.int .i64 0),.v (.slice none 0 0) =>bif ti.isSlice then .val (.v (.slice none 0 0))else .bad|_,_,_,_=>.bad
def ZP (ti:TI)(k:Tag)(l:List k.T):Option SV->Option SV->SV->OR
 |none,some (.v (.int .i64 a)),.v (.int .i64 b) =>bif ti.isSlice then .chk (a=(l.length:Int)/\b=(l.length:Int)) (.rc k l)else .bad|_,_,_=>.bad
def Ef (ti:TI)(lo hi:Option SV)(m:SV):SV->OR
 | .rs k l=>ZP ti k l lo hi m|x=>ZO ti lo hi m x
def Il (kk vk:Tag)(l:List (kk.T×vk.T))(ok:Bool):Option kk.T->OR
 |some x=>bif ok then .val (.tup [svT vk (aL kk vk l x),.b (wE kk vk l x)])else .val (svT vk (aL kk vk l x))|none=>.bad
def lq (a:Tag):Option Tag->Bool
 |some b=>Nat.beq (zG a) (zG b)|none=>false
def Im {α:Type}:Option α->Bool
 |none=>true|some _=>false
def Qr (ti:TI)(key:SV)(ok:Bool):Ob->OR
 | .mp kk vk l ap1=>bif lq kk ti.mkt&&lq vk ti.mvt&&(!ok||noE ap1)then Il kk vk l ok (unT kk key)else .bad|_=>.bad
def TX (key:SV)(ok:Bool):Option Tag->Option Tag->OR
 |some kk,some vk=>Il kk vk [] ok (unT kk key)|_,_=>.bad
def tI (ti:TI)(h:List Ob)(ok:Bool)(key:SV):SV->OR
 | .os id=>Qr ti key ok (ap h id)| .rm kk vk l=>bif lq kk ti.mkt&&lq vk ti.mvt then Il kk vk l ok (unT kk key)else .bad| .v (.map none) =>TX key ok ti.mkt ti.mvt|_=>.bad
def aaY (id:Nat)(kk vk:Tag)(l:List (kk.T×vk.T)):Option kk.T->Option vk.T->OR
 |some x,some y=>.eff True True [(id,.mp kk vk (dH kk vk l x y) none)] .any|_,_=>.bad
def aaZ (ti:TI)(id:Nat)(key v:SV):Ob->OR
 | .mp kk vk l p=>bif lq kk ti.mkt&&lq vk ti.mvt&&noE p then aaY id kk vk l (unT kk key) (unT vk v)else .bad|_=>.bad
def C4 (ti:TI)(h:List Ob)(key v:SV):SV->OR
 | .os id=>aaZ ti id key v (ap h id)|_=>.bad
def RQ (id nx:Nat)(kk vk:Tag)(l:List (kk.T×vk.T)):Option kk.T->OR
 |some x=>.eff True True [(nx,.fwd none),(id,.mp kk vk l (some (nx,some x)))] (.tup [svT vk (aL kk vk l x),.os nx])|none=>.bad
def RR (ti:TI)(id nx:Nat)(key:SV):Ob->OR
 | .mp kk vk l p=>bif lq kk ti.mkt&&lq vk ti.mvt&&noE p then RQ id nx kk vk l (unT kk key)else .bad|_=>.bad
def yf (ti:TI)(nx:Nat)(h:List Ob)(key:SV):SV->OR
 | .os id=>RR ti id nx key (ap h id)|_=>.bad
def aa0 (id:Nat)(kk vk:Tag)(l:List (kk.T×vk.T))(x:kk.T):Option vk.T->OR
 |some y=>.eff True True [(id,.mp kk vk (dH kk vk l x y) none)] .any|none=>.bad
def aa1 (ti:TI)(id n:Nat)(v:SV):Ob->OR
 | .mp kk vk l (some (n',some x)) =>bif lq kk ti.mkt&&lq vk ti.mvt&&Nat.beq n' n then aa0 id kk vk l x (unT vk v)else .bad|_=>.bad
def JH (ti:TI)(h:List Ob)(v:SV):SV->SV->OR
 | .os id,.os n=>aa1 ti id n v (ap h id)|_,_=>.bad
def aa2 (id:Nat)(kk vk:Tag)(l:List (kk.T×vk.T)):Option kk.T->OR
 |some x=>.eff True True [(id,.mp kk vk (su kk vk l x) none)] .any|none=>.bad
def aa3 (ti:TI)(id:Nat)(key:SV):Ob->OR
 | .mp kk vk l p=>bif lq kk ti.mkt&&lq vk ti.mvt&&noE p then aa2 id kk vk l (unT kk key)else .bad|_=>.bad
def y3 (ti:TI)(h:List Ob):List SV->OR
 | [.os id,key] =>aa3 ti id key (ap h id)|_=>.bad
def mmR (nx:Nat):Option Tag->Option Tag->OR
 |some kk,some vk=>.eff True True [(nx,.mp kk vk [] none)] (.os nx)|_,_=>.bad
def zsO (z:List SV):OR:=.val (.tup [.agg z,.b false])
def taS (t:TypeId)(ok:Bool)(ti:TI):SV->OR
 | .v (.iface t' y) =>bif ti.iface then .bad else bif Nat.beq t' t then(bif ok then .val (.tup [.v y,.b true])else .val (.v y))else .bad|_=>.bad
def XW (ti:TI)(nx id:Nat):Ob->OR
 | .mp kk vk l p=>bif lq kk ti.mkt&&lq vk ti.mvt&&noE p then .eff True True [(nx,.mi (some id) l.length (List.range l.length) none),(id,.mp kk vk l (some (nx,none)))] (.ptr nx 0)else .bad|_=>.bad
def Eg (ti:TI)(nx:Nat)(h:List Ob):SV->OR
 | .os id=>XW ti nx id (ap h id)|_=>.bad
def TY:SV->OR
 | .ptr id 0=>.nxt id|_=>.bad
def TZ (id n j:Nat):Ob->OR
 | .mp kk vk l (some (it,none)) =>bif Nat.beq it id then .chk (n=l.length/\j<n) (.tup [svT kk (l.getD j (et kk,et vk)).1,svT vk (l.getD j (et kk,et vk)).2])else .bad|_=>.bad
def Qs (h:List Ob)(id:Nat):Ob->OR
 | .mi (some mid) n _ (some j) =>TZ id n j (ap h mid)|_=>.bad
def Cu (h:List Ob):SV->OR
 | .ptr id 0=>Qs h id (ap h id)|_=>.bad
def opS (cx:Cx):Op->OR
 | .move x=>.val (val cx x)| .assign x=>.val (val cx x)| .pick c a b=>D_ a b (val cx c) (ky cx.ops cx.g c true (raw cx.st.t a)) (ky cx.ops cx.g c false (raw cx.st.t b))
 | .alloc t=>aJ cx.ts t λti=>JD cx.nx (some ti.zero)
 | .box _ x=>JD cx.nx (pg (val cx x))
 | .build t parts=>aJ cx.ts t λti=>
  bif ti.apZ then aJ cx.ts ti.elem λte=>Ol (lE (λi=>some (i*te.size,te.size)) ti.zero (iD cx parts.toList))
  else bif ti.agg then Ol (lE (λi=>(nth ti.fields i).map λf=>(f.1,f.2.1)) ti.zero (iD cx parts.toList))
  else .bad
 | .buildSlice t n parts=>aJ cx.ts t λti=>aJ cx.ts ti.elem λte=>Hg (JE t cx.ops cx.g) cx.nx te (bsS ti te n (iD cx parts.toList))
 | .load t a=>aJ cx.ts t λti=>qC ti cx.st.h (val cx a)
 | .store t a x=>aJ cx.ts t λti=>rh ti.size cx.nx cx.st.h (val cx a) (val cx x)
 | .nilCheck x=>TK (val cx x)| .binOp op t x y _=>Jy cx.ts op t (val cx x) (val cx y)| .unOp op _ x=>unS op (val cx x)
 | .convert src dst x=>aJ cx.ts src λ_=>aJ cx.ts dst λti=>LM ti.int (val cx x)
 | .makeFunc fn first captured=>LP fn (dm cx first.toList) (dm cx captured.toList)
 | .fieldAddr t x f=>aJ cx.ts t λti=>match nth ti.fields f with|some (o,n,_) =>bif Nat.ble 1 n then Ba o (val cx x)else .bad|none=>.bad
 | .field t x f=>aJ cx.ts t λti=>sw (nth ti.fields f) (zL (val cx x))
 | .indexAddr t x i=>aJ cx.ts t λti=>aJ cx.ts ti.elem λte=>ii ti te.size cx.st.h (val cx x) (val cx i)
 | .extract x i=>TQ i (val cx x)| .panic x=>TR (val cx x)
 | .makeInterface t x=>aJ cx.ts t λti=>bif ti.iface then .bad else Ec t (val cx x)
 | .makeSlice t n c=>aJ cx.ts t λti=>aJ cx.ts ti.elem λte=>bif ti.isSlice then(bif te.isSlice then aJ cx.ts te.elem λtr=>Hh cx.nx te tr (val cx n) (val cx c)else mkS cx.nx te (val cx n) (val cx c))else .bad
 | .slice t x lo hi none=>aJ cx.ts t λti=>aJ cx.ts ti.elem λte=>mH ti te.size cx.nx cx.st.h (ov cx lo) (ov cx hi) (Im hi&&LO cx.ops) (val cx x)
 | .slice t x lo hi (some m) =>aJ cx.ts t λti=>aJ cx.ts ti.elem λ_=>Ef ti (ov cx lo) (ov cx hi) (val cx m) (val cx x)
 | .makeMap t none=>aJ cx.ts t λti=>mmR cx.nx ti.mkt ti.mvt
 | .lookup t m k ok=>aJ cx.ts t λti=>tI ti cx.st.h ok (val cx k) (val cx m)
 | .mapUpdate t m k v=>aJ cx.ts t λti=>C4 ti cx.st.h (val cx k) (val cx v) (val cx m)
 | .insert t m k v=>aJ cx.ts t λti=>C4 ti cx.st.h (val cx k) (val cx v) (val cx m)
 | .mapEntry t m k=>aJ cx.ts t λti=>yf ti cx.nx cx.st.h (val cx k) (val cx m)
 | .entryStore t m s v=>aJ cx.ts t λti=>JH ti cx.st.h (val cx v) (val cx m) (val cx s)
 | .range t m=>aJ cx.ts t λti=>Eg ti cx.nx cx.st.h (val cx m)
 | .next it false=>TY (val cx it)| .entry it=>Cu cx.st.h (val cx it)
 | .typeAssert x _ t ok=>aJ cx.ts t λti=>taS t ok ti (val cx x)
 | .call ⟨.value f,args,_⟩ =>zO (dm cx args.toList) (val cx f)
 | .call ⟨.builtin .len,args,tys⟩ =>match tys.toList with| [t] =>aJ cx.ts t λti=>ua ti cx.st.h (dm cx args.toList) |_=>.bad
 | .call ⟨.builtin .delete,args,tys⟩ =>match tys.toList with|t::_=>aJ cx.ts t λti=>y3 ti cx.st.h (dm cx args.toList) |_=>.bad
 | .call ⟨.builtin .clear,args,tys⟩ =>match tys.toList with| [t] =>aJ cx.ts t λti=>aJ cx.ts ti.elem λte=>yZ ti te cx.st.h (dm cx args.toList) |_=>.bad
 | .call ⟨.builtin .min,args,_⟩ =>JF (dm cx args.toList)| .call ⟨.builtin .max,args,_⟩ =>JG (dm cx args.toList)
 | .call ⟨.builtin .append,args,tys⟩ =>match tys.toList with| [t,t2] =>aJ cx.ts t λti=>aJ cx.ts t2 λti2=>aJ cx.ts ti.elem λte=>bif ti.isSlice&&ti2.isSlice then ml te cx.nx cx.st.h (dm cx args.toList)else .bad|_=>.bad
 |_=>.bad
structure Fp where
 all:List Nat
 rd:List Nat
 wk:List Nat
 tc:List Nat
 wt:List Nat
def fM:SV->List Nat
 | .ptr id _=>[id]| .os id=>[id]| .rp _ id _ _=>[id]| .gr id _=>[id]| .gp _ id _ _ _=>[id]| .vw _ id _ _=>[id]|_=>[]
def JI:SV->List Nat
 | .ls _ [.os id] =>[id]|s=>fM s
def ph:List SV->List Nat
 | [] =>[]|s::r=>JI s++ph r
def T0:Ob->List Nat
 | .mi (some mid) _ _ _=>[mid]|_=>[]
def T3 (h:List Ob):SV->List Nat
 | .ptr id _=>T0 (ap h id)|_=>[]
def fpO (cx:Cx):Op->List Nat×List Nat
 | .range _ m=>(fM (val cx m),[])| .entry it=>(fM (val cx it)++T3 cx.st.h (val cx it),[])| .load _ a=>(fM (val cx a),[])| .store _ a x=>(fM (val cx a)++fM (val cx x),[])| .indexAddr _ x _=>(fM (val cx x),[])| .slice _ x _ _ _=>(fM (val cx x),[])| .lookup _ m _ ok=>bif ok then(fM (val cx m),[])else([],fM (val cx m))| .mapUpdate _ m _ _=>(fM (val cx m),[])| .insert _ m _ _=>(fM (val cx m),[])| .mapEntry _ m _=>(fM (val cx m),[])| .entryStore _ m _ _=>(fM (val cx m),[])| .call ⟨.builtin .len,args,_⟩ =>(ph (dm cx args.toList),[])| .call ⟨.builtin .append,args,_⟩ =>(ph (dm cx args.toList),[])| .call ⟨.builtin .delete,args,_⟩ =>(ph (dm cx args.toList),[])| .call ⟨.builtin .clear,args,_⟩ =>(ph (dm cx args.toList),[])|_=>([],[])
def fe:List Up->List Nat
 | [] =>[]|(id,_)::r=>id::fe r
def zQ:Op->Bool
 | .mapEntry .. =>true|_=>false
def fpU (o:Op)(x:List Nat×List Nat)(all:List Nat)(ups:List Up):Fp:=
 bif zQ o then ⟨all,x.1,x.2,[],fe ups⟩else ⟨all,x.1,x.2,fe ups,[]⟩
def LQ (as:List Nat):List Edge->Nat
 | [] =>0|e::r=>bif Region.binds .any e then Nat.lor (Nat.lor ((nth as e.on).getD 0) (Nat.shiftLeft 1 e.on)) (LQ as r)else LQ as r
def Bb:List Oper->List Nat->List Nat
 | [],as=>as|o::r,as=>Bb r (as++[LQ as o.after.toList])
def sA (as:List Nat)(i j:Nat):Bool:=Nat.testBit ((nth as i).getD 0) j
def C5 (n:Nat):List Nat->Bool
 | [] =>false|m::r=>bif Nat.beq m n then true else C5 n r
def tJ:List Nat->List Nat->Bool
 | [],_=>false|a::r,l=>bif C5 a l then true else tJ r l
def tK (i e:Fp):Bool:=
 tJ i.all e.tc||tJ i.all e.wt||tJ i.rd e.tc||tJ i.rd e.wt||tJ i.wk e.tc||tJ i.tc e.tc||tJ i.tc e.wt||tJ i.wt e.tc||tJ i.wt e.wt
def LR (as:List Nat)(i:Nat)(x:Fp):Nat->List Fp->Bool
 |_,[] =>true|j,y::r=>(Nat.beq i j|| !(tK x y) ||(Nat.blt j i&&sA as i j) ||(Nat.blt i j&&sA as j i))&&LR as i x (j+1) r
def Qt (as:List Nat)(b:Nat)(all:List Fp):Nat->List Fp->Bool
 |_,[] =>true|i,x::r=>LR as i x b all&&Qt as b all (i+1) r
def afX (ops:List Oper)(b:Nat)(fps:List Fp):Bool:=Qt (Bb ops []) b fps b fps
def In:List Fp->Bool
 | [] =>true|x::r=>x.tc.isEmpty&&x.wt.isEmpty&&In r
def sB (ops:List Oper)(b:Nat)(fps:List Fp):Prop:=bif In fps then True else afX ops b fps=true
def JJ (as:List Nat)(c:Nat):Nat->List Oper->Bool
 |_,[] =>true|i,_::r=>(Nat.beq i c||(Nat.blt i c&&sA as c i) ||(Nat.blt c i&&sA as i c))&&JJ as c (i+1) r
def Eh (ops:List Oper)(c:Nat):Bool:=JJ (Bb ops []) c 0 ops
def dO (ops:List Oper)(t:List (Nat×SV)):Nat->Nat×Bool->Prop
 |0,_=>True
 |n+1,(j,want) =>match (nth ops j).bind (·.dst)with
  |some d=>match lk d t with
   | .v (.bool x) =>x=want| .gd j' b (.v (.bool x)) =>dO ops t n (j',b)/\x=want|_=>True
  |none=>True
def gi (ops:List Oper)(t:List (Nat×SV)):Nat->Nat×Bool->Prop
 |0,_=>True
 |n+1,(j,want) =>match (nth ops j).bind (·.dst)with
  |some d=>match lk d t with
   | .v (.bool x) =>¬x=want| .gd j' b (.v (.bool x)) =>gi ops t n (j',b)\/¬x=want|_=>True
  |none=>True
def wG (ops:List Oper)(t:List (Nat×SV)):Nat->Nat×Bool->Prop
 |0,_=>False
 |n+1,(j,want) =>match (nth ops j).bind (·.dst)with
  |some d=>match lk d t with
   | .v (.bool x) =>¬x=want| .gd j' b (.v (.bool x)) =>wG ops t n (j',b)\/¬x=want|_=>False
  |none=>False
def XX (szt off:Nat)(i:Int):Ob->SV
 | .row k l=>bif Nat.beq szt (aa k)then .ep (cellsOf k (l.getD i.toNat (et k))) off else .any|_=>.any
def Qu (szt off:Nat)(i j:Int):Ob->SV
 | .apw k l=>bif Nat.beq szt (aa k)then .ep (cellsOf k ((l.getD i.toNat []).getD j.toNat (et k))) off else .any|_=>.any
def T4 (i:Int):Ob->SV
 | .apw k l=>.rs k (l.getD i.toNat [])|_=>.any
def frz:Ob->SV
 | .row k l=>.rs k l| .mp kk vk l p=>bif noE p then .rm kk vk l else .any| .apw k l=>LA k l| .fz k l=>.rs k l|_=>.any
def RS (f:SV->SV)(off:Nat):Ob->SV
 | .cells l=>.ep (l.map f) off|_=>.any
def XY (s:Nat)(lo hi:Int):Ob->SV
 | .row k l=>bif Nat.beq s (aa k)then .rs k ((l.take hi.toNat).drop lo.toNat)else .any|_=>.any
def fD (h:List Ob):Nat->SV->SV
 |_,.v x=>.v x|_,.rs k l=>.rs k l|_,.rc k l=>.rs k l|_,.e0=>.e0|_,.rm k k2 l=>.rm k k2 l|_,.os id=>frz (ap h id)|_,.vw s id lo hi=>XY s lo hi (ap h id)|_,.rp s id i off=>bif Nat.beq s 0 then .any else XX s off i (ap h id)|_,.gp s id i j off=>bif Nat.beq s 0 then .any else Qu s off i j (ap h id)|_,.gr id i=>T4 i (ap h id)|n+1,.ptr id off=>RS (fD h n) off (ap h id)|n+1,.ep l off=>.ep (l.map (fD h n)) off|n+1,.ls s l=>.ls s (l.map (fD h n))|n+1,.agg l=>.agg (l.map (fD h n))|n+1,.tup l=>.tup (l.map (fD h n))
 |n+1,.fn f first caps=>.fn f (first.map (fD h n)) (caps.map (fD h n))
 |_,_=>.any
def RU (f:SV->List Nat):Ob->List Nat
 | .cells l=>l.flatMap f|_=>[]
def j5 (h:List Ob):Nat->SV->List Nat
 |_,.os id=>[id]|_,.rp _ id _ _=>[id]|_,.gp _ id _ _ _=>[id]|_,.gr id _=>[id]|_,.vw _ id _ _=>[id]|n+1,.ptr id _=>id::RU (j5 h n) (ap h id)|n+1,.ep l _=>l.flatMap (j5 h n)|n+1,.ls _ l=>l.flatMap (j5 h n)|n+1,.agg l=>l.flatMap (j5 h n)|n+1,.tup l=>l.flatMap (j5 h n)
 |n+1,.fn _ first caps=>first.flatMap (j5 h n)++caps.flatMap (j5 h n)
 |_,_=>[]
def apW:List (Nat×SV)->List (Nat×SV)
 | [] =>[]|(d,.gd ..)::r=>(d,.any)::apW r|x::r=>x::apW r
def c8:Nat->SV->Bool
 |_,.v _=>true|_,.rs _ _=>true|_,.rm _ _ _=>true|_,.e0=>true|_,.rc _ _=>true|_,.any=>true|n+1,.ep l _=>l.all (c8 n)|n+1,.ls _ l=>l.all (c8 n)|n+1,.agg l=>l.all (c8 n)|n+1,.tup l=>l.all (c8 n)|n+1,.fn _ l m=>l.all (c8 n)&&m.all (c8 n)|_,_=>false
def i6:Nat->SV->Bool
 |_,.v _=>true|_,.nw k _=>Nat.beq (ao8 k) 0|_,.nm k k2 _=>Nat.beq (ao8 k) 0&&Nat.beq (ao8 k2) 0|_,.ng k _=>Nat.beq (ao8 k) 0|n+1,.agg l=>l.all (i6 n)|n+1,.tup l=>l.all (i6 n)|_,_=>false
def aS:Nat->SV->List Ob
 |_,.nw k l=>[.row k l]|_,.nm k k2 l=>[.mp k k2 l none]|_,.ng k l=>[.apw k l]|n+1,.agg l=>l.flatMap (aS n)|n+1,.tup l=>l.flatMap (aS n)|_,_=>[]
def ri (f:Nat->SV->SV)(c:SV->Nat):Nat->List SV->List SV
 |_,[] =>[]|b,x::r=>f b x::ri f c (b+c x) r
def iE:Nat->Nat->SV->SV
 |_,b,.nw _ _=>.os b|_,b,.nm _ _ _=>.os b|_,b,.ng _ _=>.os b
 |n+1,b,.agg l=>.agg (ri (iE n) (λs=>(aS n s).length) b l)
 |n+1,b,.tup l=>.tup (ri (iE n) (λs=>(aS n s).length) b l)
 |_,_,s=>s
def fA:Nat->SV->List Nat
 |_,.ptr id _=>[id]|_,.os id=>[id]|_,.rp _ id _ _=>[id]|_,.gr id _=>[id]|_,.gp _ id _ _ _=>[id]|_,.vw _ id _ _=>[id]|n+1,.ep l _=>l.flatMap (fA n)|n+1,.ls _ l=>l.flatMap (fA n)|n+1,.agg l=>l.flatMap (fA n)|n+1,.tup l=>l.flatMap (fA n)|n+1,.fn _ l m=>l.flatMap (fA n)++m.flatMap (fA n)|n+1,.gd _ _ s=>fA n s|_,_=>[]
def T5:Ob->List Nat
 | .cells l=>l.flatMap (fA 3)|_=>[]
def reach (h:List Ob):Nat->List Nat->List Nat->List Nat
 |0,_,acc=>acc|_+1,[],acc=>acc|n+1,id::todo,acc=>bif C5 id acc then reach h n todo acc else reach h n (T5 (ap h id)++todo) (acc++[id])
def y4 (id:Nat):List Nat->Option Nat
 | [] =>none|a::r=>bif Nat.beq a id then some 0 else(y4 id r).map (· +1)
def zR (f:Nat->SV):Option Nat->SV
 |some k=>f k|none=>.any
def ren (m:Nat->Option Nat):Nat->SV->SV
 |_,.ptr id off=>zR (λk=>.ptr k off) (m id)
 |_,.os id=>zR (λk=>.os k) (m id)
 |_,.rp s id i off=>zR (λk=>.rp s k i off) (m id)
 |_,.gr id i=>zR (λk=>.gr k i) (m id)
 |_,.gp s id i j off=>zR (λk=>.gp s k i j off) (m id)
 |_,.vw s id lo hi=>zR (λk=>.vw s k lo hi) (m id)
 |n+1,.ep l o=>.ep (l.map (ren m n)) o|n+1,.ls s l=>.ls s (l.map (ren m n))|n+1,.agg l=>.agg (l.map (ren m n))|n+1,.tup l=>.tup (l.map (ren m n))|n+1,.fn f l l2=>.fn f (l.map (ren m n)) (l2.map (ren m n))|_,.any=>.any|_,.v x=>.v x|_,.e0=>.e0|_,.rc k l=>.rc k l|_,.rs k l=>.rs k l|_,.rm k k2 l=>.rm k k2 l|_,_=>.any
def Oo (kk vk:Tag)(l:List (kk.T×vk.T)):Option kk.T->Option Nat->Ob
 |p,some k=>.mp kk vk l (some (k,p))|some _,none=>.fwd none|none,none=>.mp kk vk l none
def va (m:Nat->Option Nat):Ob->Ob
 | .cells l=>.cells (l.map (ren m 3))| .mi mid n left cur=>.mi (mid.bind m) n left cur| .fwd n=>.fwd (n.bind m)| .mp kk vk l (some (i,p)) =>Oo kk vk l p (m i)|o=>o
def inN (ids:List Nat)(i:Nat):Option Nat:=y4 i ids
def rK (h:List Ob)(ids:List Nat):List Ob:=ids.map λid=>va (inN ids) (ap h id)
def rH (ids:List Nat)(b:Nat)(k:Nat):Option Nat:=match nth ids k with|some id=>some id|none=>some (b+(k - ids.length))
def j6 (ids:List Nat)(b:Nat)(k:Nat):Nat:=match nth ids k with|some id=>id|none=>b+(k - ids.length)
def mE (ids:List Nat)(b:Nat)(h:List Ob):Nat->List Ob->List Ob
 |_,[] =>h|k,o::r=>mE ids b (cm h (j6 ids b k) (va (rH ids b) o)) (k+1) r
def JK (ids:List Nat)(d:Option Nat)(st:St)(K:St->Prop)(Z:Value->St->Prop):Rs->Prop
 | .ret s h=>K (St.put ⟨st.t,mE ids st.h.length st.h 0 h⟩ d (ren (rH ids st.h.length) 3 s))| .pan x h=>Z x ⟨apW st.t,mE ids st.h.length st.h 0 h⟩
def RV (ids:List Nat)(g:Nat×Bool)(d:Option Nat)(st:St)(K:St->Prop)(Z:Value->St->Prop):Rs->Prop
 | .ret s h=>K (St.put ⟨st.t,mE ids st.h.length st.h 0 h⟩ d (.gd g.1 g.2 (ren (rH ids st.h.length) 3 s)))| .pan x h=>Z x ⟨apW st.t,mE ids st.h.length st.h 0 h⟩
def yC (ids:List Nat)(d:Option Nat)(st:St)(K:St->Prop)(Z:Value->St->Prop):Option apd->Prop
 |some c=>c.pre/\∀ r,c.post r->JK ids d st K Z (c.res r)|none=>False
def y5 (ids:List Nat)(ops:List Oper)(g:Nat×Bool)(d:Option Nat)(st:St)(K:St->Prop)(Z:Value->St->Prop):Option apd->Prop
 |some c=>(dO ops st.t ops.length g->c.pre/\∀ r,c.post r->RV ids g d st K Z (c.res r))/\(gi ops st.t ops.length g->K (st.put d (.gd g.1 g.2 .any)))|none=>wG ops st.t ops.length g/\K (st.put d (.gd g.1 g.2 .any))
def wH (np:Bool)(ids:List Nat)(d:Option Nat)(st:St)(K:St->Prop)(Z:Value->St->Prop)(c:Option apd):Option Con->Prop
 |some (.det p s) =>bif np||i6 3 s then(p/\K (St.put ⟨st.t,st.h++aS 3 s⟩ d (iE 3 st.h.length s)))else yC ids d st K Z c
 |some (.rel _ pre post out) =>pre/\(bif np then ∀ r,post r->K (St.put ⟨st.t,st.h++aS 3 (out r)⟩ d (iE 3 st.h.length (out r)))else False)
 |some (.may ok s x) =>bif np||i6 3 s then(ok=true->K (St.put ⟨st.t,st.h++aS 3 s⟩ d (iE 3 st.h.length s)))/\(ok=false->Z x ⟨apW st.t,st.h⟩)else False
 |none=>yC ids d st K Z c
def Ei (np:Bool)(ids:List Nat)(ops:List Oper)(g:Nat×Bool)(d:Option Nat)(st:St)(K:St->Prop)(Z:Value->St->Prop)(c:Option apd):Option Con->Prop
 |some (.det p s) =>(dO ops st.t ops.length g->p)/\(bif(np||i6 3 s)&&(aS 3 s).isEmpty then K (st.put d (.gd g.1 g.2 s))else False)|none=>y5 ids ops g d st K Z c|_=>False
def Oq (id:Nat)(d:Option Nat)(st:St)(K:St->Prop):Option aqo->Prop
 |some c=>c.pre/\∀ r,c.post r->K (St.put ⟨st.t,cm st.h id (.ab (c.res r).2)⟩ d (.b (c.res r).1))|none=>False
def LS (id:Nat)(ops:List Oper)(g:Nat×Bool)(d:Option Nat)(st:St)(K:St->Prop):Option aqo->Prop
 |some c=>(dO ops st.t ops.length g->c.pre/\∀ r,c.post r->K (St.put ⟨st.t,cm st.h id (.ab (c.res r).2)⟩ d (.gd g.1 g.2 (.b (c.res r).1))))/\(gi ops st.t ops.length g->K (st.put d (.gd g.1 g.2 .any)))|none=>False
def JM (G:Cons)(args:List SV):Ob->Option aqo
 | .ab r=>G.y args r|_=>none
def T6 (id mid n:Nat)(left:List Nat)(d:Option Nat)(st:St)(next:St->Prop):Ob->Prop
 | .mp kk vk l (some (it,none)) =>(it=id/\n=l.length)/\(left=[]->next (st.put d (.tup [.v (.bool false)])))/\
   ∀ j,j∈left->next (St.put ⟨st.t,cm st.h id (.mi (some mid) n (left.erase j) (some j))⟩ d (.tup [.v (.bool true),svT kk (l.getD j (et kk,et vk)).1,svT vk (l.getD j (et kk,et vk)).2]))
 |_=>False
def XZ (id:Nat)(d:Option Nat)(st:St)(next:St->Prop):Ob->Prop
 | .mi (some mid) n left _=>T6 id mid n left d st next (ap st.h mid)|_=>False
def lF (G:Cons)(d:Option Nat)(st:St)(next:St->Prop)(Z:Value->St->Prop):OR->Prop
 | .val s=>next (st.put d s)| .chk c s=>c/\next (st.put d s)| .asm c s=>c->next (st.put d s)| .apY s=>next (st.put d s)| .eff c a ups s=>c/\(a->next (St.put ⟨st.t,bb st.h ups⟩ d s))| .call f args=>wH (args.all (c8 3)) (reach st.h 64 (args.flatMap (fA 3)) []) d st next Z (G.o f (args.map (ren (inN (reach st.h 64 (args.flatMap (fA 3)) [])) 6)) (rK st.h (reach st.h 64 (args.flatMap (fA 3)) []))) (G.p f (args.map (fD st.h 6)))| .yld id args=>bif args.all (c8 3)then Oq id d st next (JM G args (ap st.h id))else False| .nxt id=>XZ id d st next (ap st.h id)| .amb p=>∀ b,p b->next (st.put d (.v (.bool b)))| .pan x=>Z x ⟨apW st.t,st.h⟩| .bad=>False
def stepG (G:Cons)(ops:List Oper)(g:Nat×Bool)(d:Option Nat)(st:St)(next:St->Prop)(Z:Value->St->Prop):OR->Prop
 | .val s=>next (st.put d (.gd g.1 g.2 s))| .chk c s=>(dO ops st.t ops.length g->c)/\next (st.put d (.gd g.1 g.2 s))| .asm _ s=>next (st.put d (.gd g.1 g.2 s))| .apY s=>next (st.put d (.gd g.1 g.2 s))| .eff c a ups s=>(dO ops st.t ops.length g->c/\(a->next (St.put ⟨st.t,bb st.h ups⟩ d (.gd g.1 g.2 s))))/\(gi ops st.t ops.length g->next (st.put d (.gd g.1 g.2 .any)))| .call f args=>Ei (args.all (c8 3)) (reach st.h 64 (args.flatMap (fA 3)) []) ops g d st next Z (G.o f (args.map (ren (inN (reach st.h 64 (args.flatMap (fA 3)) [])) 6)) (rK st.h (reach st.h 64 (args.flatMap (fA 3)) []))) (G.p f (args.map (fD st.h 6)))| .yld id args=>bif args.all (c8 3)then LS id ops g d st next (JM G args (ap st.h id))else False| .bad=>wG ops st.t ops.length g/\next (st.put d (.gd g.1 g.2 .any))| .nxt _=>False| .amb _=>False| .pan _=>False
def jh (ts:Tis)(G:Cons)(ops:List Oper):List Oper->St->(St->Prop)->(Value->St->Prop)->Prop
 | [],st,K,_=>K st
 |o::rest,st,K,Z=>match o.guard with
  |none=>lF G o.dst st (λst'=>jh ts G ops rest st' K Z) Z (opS ⟨ts,ops,none,st,st.h.length⟩ o.op)
  |some g=>stepG G ops g o.dst st (λst'=>jh ts G ops rest st' K Z) Z (opS ⟨ts,ops,some g,st,st.h.length⟩ o.op)
structure Dr where
 c:Prop
 a:Prop
 s:SV
 ups:List Up
 all:List Nat
def drR (np:Bool)(rd:List Nat)(nx:Nat)(p:Prop)(s:SV):List Ob->Option Dr
 | [] =>bif np||i6 3 s then some ⟨p,True,s,[],rd⟩else none
 | [ob] =>bif np||i6 3 s then some ⟨p,True,iE 3 nx s,[(nx,ob)],rd⟩else none
 |_=>none
def drC (np:Bool)(rd:List Nat)(nx:Nat):Option Con->Option Dr
 |some (.det p s) =>drR np rd nx p s (aS 3 s)|_=>none
def LU:Value->Bool
 | .agg _=>false| .tuple _=>false|_=>true
def X0 (C:List SV->Option Con)(i:Nat)(rd:List Nat):Option Con->Option Dr
 |some (.det _ (.fn g [] [.ep [.v _] 0])) =>some ⟨∀ x,LU x=true->C [.v x]=some (.det True (.fn g [] [.ep [.v x] 0])),True,.fn g [] [.ep [.os i] 0],[],rd⟩|_=>none
def drB (C:List SV->Option Con)(rd:List Nat):List SV->Option Dr
 | [.os i] =>X0 C i rd (C [.v (.bool true)])|_=>none
def drX (C:List SV->Option Con)(rd:List Nat)(args:List SV):Option Dr->Option Dr
 |some r=>some r|none=>drB C rd args
def jK (G:Cons)(h:List Ob)(nx:Nat):OR->Option Dr
 | .val s=>some ⟨True,True,s,[],[]⟩| .chk c s=>some ⟨c,True,s,[],[]⟩| .asm c s=>some ⟨True,c,s,[],[]⟩| .apY s=>some ⟨True,True,s,[],[]⟩| .eff c a ups s=>some ⟨c,a,s,ups,[]⟩| .call f args=>drX (G.p f) (args.flatMap (j5 h 6)) args (drC (args.all (c8 3)) (args.flatMap (j5 h 6)) nx (G.p f (args.map (fD h 6))))| .bad=>some ⟨False,True,.any,[],[]⟩|_=>none
def drN (d:Option Nat)(st:St)(next:List Nat->List Up->St->Prop)(r:Dr):Prop:=r.c/\(r.a->next r.all r.ups (St.put ⟨st.t,bb st.h r.ups⟩ d r.s))
def drG (ops:List Oper)(g:Nat×Bool)(d:Option Nat)(st:St)(next:List Nat->List Up->St->Prop)(r:Dr):Prop:=
 bif r.ups.isEmpty then(dO ops st.t ops.length g->r.c)/\next r.all [] (st.put d (.gd g.1 g.2 r.s))
 else ¬ (dO ops st.t ops.length g/\gi ops st.t ops.length g)/\(dO ops st.t ops.length g->r.c/\(r.a->next r.all r.ups (St.put ⟨st.t,bb st.h r.ups⟩ d (.gd g.1 g.2 r.s))))/\(gi ops st.t ops.length g->next r.all [] (st.put d (.gd g.1 g.2 r.s)))
def y6 (d:Option Nat)(st:St)(next:List Nat->List Up->St->Prop)(are:Prop):Option Dr->Prop
 |some r=>drN d st next r|none=>are
def wI (ops:List Oper)(g:Nat×Bool)(d:Option Nat)(st:St)(next:List Nat->List Up->St->Prop)(are:Prop):Option Dr->Prop
 |some r=>drG ops g d st next r|none=>are
def jO (ts:Tis)(G:Cons)(ops:List Oper)(K:St->Prop)(Z:Value->St->Prop):List Oper->(i b:Nat)->List Fp->St->Prop
 | [],_,b,fps,st=>sB ops b fps/\K st
 |o::rest,i,b,fps,st=>match o.guard with
  |none=>y6 o.dst st (λall ups st'=>jO ts G ops K Z rest (i+1) b (fps++[fpU o.op (fpO ⟨ts,ops,none,st,st.h.length⟩ o.op) all ups]) st')
    (sB ops b fps/\Eh ops i=true/\lF G o.dst st (λst'=>jO ts G ops K Z rest (i+1) (i+1) [] st') Z (opS ⟨ts,ops,none,st,st.h.length⟩ o.op))
    (jK G st.h st.h.length (opS ⟨ts,ops,none,st,st.h.length⟩ o.op))
  |some g=>wI ops g o.dst st (λall ups st'=>jO ts G ops K Z rest (i+1) b (fps++[fpU o.op (fpO ⟨ts,ops,some g,st,st.h.length⟩ o.op) all ups]) st')
    (sB ops b fps/\Eh ops i=true/\stepG G ops g o.dst st (λst'=>jO ts G ops K Z rest (i+1) (i+1) [] st') Z (opS ⟨ts,ops,some g,st,st.h.length⟩ o.op))
    (jK G st.h st.h.length (opS ⟨ts,ops,some g,st,st.h.length⟩ o.op))
def aa4 (id:Nat):Ob->SV
 | .fwd (some n) =>.os n|_=>.os id
def T7 (h:List Ob):SV->SV
 | .os id=>aa4 id (ap h id)|s=>s
def Ot (h:List Ob):List (Nat×SV)->List (Nat×SV)
 | [] =>[]|(d,s)::r=>(d,T7 h s)::Ot h r
def Qv:Ob->Bool
 | .fwd (some _) =>true|_=>false
def nP:List Ob->Bool
 | [] =>false
 |o::r=>Qv o||nP r
def aa5:Ob->Ob
 | .fwd _=>.dead|o=>o
def yD:List Ob->List Ob
 | [] =>[]|o::r=>aa5 o::yD r
def aqq (st:St):St:=bif nP st.h then ⟨Ot st.h st.t,yD st.h⟩else st
def wJ (ops:List Oper)(st:St):St:=aqq (bif ops.any (·.guard.isSome)then ⟨apW st.t,st.h⟩else st)
inductive Ex where
 |normal
 |exit (id:Nat)
 |ret
 |pan (x:Value)
def Ex.then (K:St->Prop)(Q:Ex->St->Prop):Ex->St->Prop
 | .normal,st=>K st|e,st=>Q e st
def Ex.block (id:Nat)(Q:Ex->St->Prop):Ex->St->Prop
 | .exit j,st=>bif Nat.beq j id then Q .normal st else Q (.exit j) st|e,st=>Q e st
def zS (x y:Prop):SV->Prop
 | .v (.bool b) =>(b=true->x)/\(b=false->y)|_=>False
structure apN where
 α:Type
 pre:Prop
 post:α->Prop
 ex:α->Ex
 out:α->St
abbrev vZ:=Nat->St->Option apN
def rI (Q:Ex->St->Prop):Option apN->Prop
 |some c=>c.pre/\∀ r,c.post r->Q (c.ex r) (c.out r)|none=>False
def T8:Operand->Nat
 | .tmp n=>n+1000000|_=>0
def aqt (t:List (Nat×SV)):List (Nat×SV)->Prop
 | [] =>True|(n,s)::r=>lk n t=s/\aqt t r
def inJ (d:St):Ex->St->Prop
 | .normal,st=>st.h=d.h/\aqt st.t d.t|_,_=>False
def T9 (x y:(Ex->St->Prop)->Prop)(Q:Ex->St->Prop)(s:SV)(c:apN):Prop:=
 zS (x λe st=>∃ r,c.post r/\inJ (c.out r) e st) (y λe st=>∃ r,c.post r/\inJ (c.out r) e st) s/\∀ r,c.post r->Q .normal (c.out r)
def Ej (x y:(Ex->St->Prop)->Prop)(Q:Ex->St->Prop)(s:SV):Option apN->Prop
 |none=>zS (x Q) (y Q) s|some c=>T9 x y Q s c
def JC (d:St):apN:=⟨Unit,True,λ_=>True,λ_=>.normal,λ_=>d⟩
def afY (c:apN)(Q:Ex->St->Prop):Ex->St->Prop
 | .normal,st=>∃ r,c.post r/\inJ (c.out r) .normal st|e,st=>Q e st
def inC (d:St)(Q:Ex->St->Prop):Ex->St->Prop
 | .normal,st=>inJ d .normal st|e,st=>Q e st
def aso (x:(Ex->St->Prop)->Prop)(Q:Ex->St->Prop)(c:apN):Prop:=x (afY c Q)/\∀ r,c.post r->Q .normal (c.out r)
def Ek (x:(Ex->St->Prop)->Prop)(Q:Ex->St->Prop):Option apN->Prop
 |none=>x Q|some c=>aso x Q c
def Cv (ts:Tis)(G:Cons)(ops:Array Oper)(d:Bool)(st:St)(Q:Ex->St->Prop):Prop:=
 bif d then jO ts G ops.toList (λst'=>Q .normal (wJ ops.toList st')) (λx st'=>Q (.pan x) st') ops.toList 0 0 [] st
   else jh ts G ops.toList ops.toList st (λst'=>Q .normal (wJ ops.toList st')) (λx st'=>Q (.pan x) st')
def exec (ts:Tis)(G:Cons)(L:vZ):Code->St->(Ex->St->Prop)->Prop
 | .skip,st,Q=>Q .normal st| .region id ops d,st,Q=>Ek (Cv ts G ops d st) Q (L (id+2000000) st)
 | .seq a b,st,Q=>exec ts G L a st (Ex.then (λst'=>exec ts G L b st' Q) Q)
 | .cond c x y,st,Q=>Ej (exec ts G L x st) (exec ts G L y st) Q (raw st.t c) (L (T8 c) st)| .block id (.loop _),st,Q=>rI Q (L id st)| .block id (.rangeFunc ..),st,Q=>rI Q (L id st)| .block id c,st,Q=>exec ts G L c st (Ex.block id Q)| .exit id,st,Q=>Q (.exit id) st| .ret,st,Q=>Q .ret st| .scope c,st,Q=>exec ts G L c st Q| .label _,st,Q=>Q .normal st|_,_,_=>False
def X3:OR->Option SV
 | .val s=>some s|_=>none
def RW (ts:Tis)(st:St):ResultVar->Option SV
 | .tmp n=>some (lk n st.t)
 | .cell q t=>X3 (aJ ts t λti=>qC ti st.h (lk q st.t))
def LV:Option SV->Option (List SV)->Option (List SV)
 |some s,some l=>some (s::l)|_,_=>none
def pi (ts:Tis)(st:St):List ResultVar->Option (List SV)
 | [] =>some []|x::r=>LV (RW ts st x) (pi ts st r)
def rj:Option (List SV)->Option SV
 |some [s] =>some s|some l=>some (.tup l)|none=>none
def afZ (h:List Ob):Option SV->Option SV
 |some s=>some (fD h 4 s)|none=>none
def El (rs:List ResultVar)(ts:Tis)(st:St):Option SV:=afZ st.h (rj (pi ts st rs))
def wK:Ob->SV
 | .row k l=>.nw k l| .mp k k2 l none=>.nm k k2 l| .apw k l=>.ng k l|_=>.any
def yE (h:List Ob):Nat->SV->SV
 |_,.os id=>wK (ap h id)|n+1,.agg l=>.agg (l.map (yE h n))|n+1,.tup l=>.tup (l.map (yE h n))|_,.v x=>.v x|_,.rs k l=>.rs k l|_,.rm k k2 l=>.rm k k2 l|_,.e0=>.e0|n,s=>bif c8 n s then s else .any
def vb:Nat->SV->List Nat
 |_,.os id=>[id]|n+1,.agg l=>l.flatMap (vb n)|n+1,.tup l=>l.flatMap (vb n)|_,_=>[]
def uniq:List Nat->Bool
 | [] =>true|a::r=>!(C5 a r)&&uniq r
def Cw (h:List Ob)(s:SV):Option SV:=bif uniq (vb 3 s)&&(vb 3 s).all (λi=>Nat.blt i h.length)then some (yE h 3 s)else none
def ZQ (h:List Ob):Option SV->Option SV
 |some s=>Cw h s|none=>none
def RX (rs:List ResultVar)(ts:Tis)(st:St):Option SV:=ZQ st.h (rj (pi ts st rs))
def Em (m:Bool)(rs:List ResultVar)(ts:Tis)(st:St):Option SV:=bif m then RX rs ts st else El rs ts st
def DH (ops:List Oper)(i:Nat)(o:Oper):Bool:=
 match o.guard with
 |none=>true
 |some (j,_) =>Nat.blt j i&&(match (nth ops j).bind (·.dst)with
  |some d=>(List.range ops.length).all λk=>Nat.beq k j||(match (nth ops k).bind (·.dst)with|some e=>!(Nat.beq d e) |none=>true)
  |none=>false)
def T_ (N:Nat)(ops:List Oper):Bool:=
 (List.range ops.length).all λi=>match nth ops i with
  |some o=>(match o.dst with|some d=>Nat.blt d N|none=>true)&&DH ops i o
  |none=>true
def pm (o:Oper)(k:Nat):Bool:=o.after.toList.any λe=>Nat.beq e.on k&&Region.binds .any e
def Ou (ops:Array Oper):Bool:=
 (List.range ops.size).all λi=>match nth ops.toList i with
  |some o=>
   (o.after.toList.all λe=>!(Region.binds .any e) ||Nat.blt e.on i)&&
   (List.range ops.size).all λk=>match nth ops.toList k with
    |some q=>match q.dst with
     |some d=>(Nat.beq k i|| !(o.dst==some d))&&(!((o.looksAt ops).contains d) ||Nat.beq k i||(Nat.blt k i&&pm o k) ||(Nat.blt i k&&pm q i))|none=>true
    |none=>true
  |none=>true
def cP (N:Nat):Code->Bool
 | .region _ ops d=>T_ N ops.toList&&(!d||Ou ops)| .seq a b=>cP N a&&cP N b| .cond _ a b=>cP N a&&cP N b| .block _ c=>cP N c| .loop c=>cP N c| .scope c=>cP N c| .rangeFunc _ _ a b=>cP N a&&cP N b|_=>true
def mF:Nat->Nat->SV->Bool
 |_,_,.v _=>true|_,_,.rs _ _=>true|_,_,.rm _ _ _=>true|_,_,.any=>true|_,_,.e0=>true|_,_,.rc _ _=>true|_,n,.ptr id _=>Nat.blt id n|_,n,.os id=>Nat.blt id n|_,n,.rp _ id _ _=>Nat.blt id n|_,n,.gr id _=>Nat.blt id n|_,n,.gp _ id _ _ _=>Nat.blt id n|_,n,.vw _ id _ _=>Nat.blt id n|f+1,n,.ep l _=>l.all (mF f n)|f+1,n,.ls _ l=>l.all (mF f n)|f+1,n,.agg l=>l.all (mF f n)|f+1,n,.tup l=>l.all (mF f n)|f+1,n,.fn _ l m=>l.all (mF f n)&&m.all (mF f n)|_,_,_=>false
def RY (m:Nat->Option Nat)(n:Nat)(t:List (Nat×SV)):List (Nat×SV)->Prop
 | [] =>True|(i,s)::r=>(lk i t=ren m 5 s/\mF 5 n s=true)/\RY m n t r
def dx:Ob->Bool
 | .dead=>true|_=>false
def v7 (n:Nat):Ob->Bool
 | .cells l=>l.all (mF 3 n)| .mi (some i) _ _ _=>Nat.blt i n| .fwd (some i) =>Nat.blt i n| .mp _ _ _ (some (i,_)) =>Nat.blt i n|_=>true
def unp {κ:Type}:Option (Nat×Option κ)->Option (Nat×Option κ)
 |some (_,none) =>none|p=>p
def Qw:SV->Bool
 | .any=>true|_=>false
def wkL:List SV->List SV->List SV
 |a::r,x::s=>(bif Qw a then .any else x)::wkL r s|_,s=>s
def En:Ob->Ob->Ob
 | .mp _ _ _ none,.mp kk vk l p=>.mp kk vk l (unp p)| .cells a,.cells l=>.cells (wkL a l)|_,o=>o
def JN (m:Nat->Option Nat)(n:Nat)(h:List Ob)(j:Nat)(o:Ob):Prop:=bif dx o then True else En o (ap h j)=va m o/\v7 n o=true
def Hi (m:Nat->Option Nat)(n:Nat)(h:List Ob):List Nat->List Ob->Prop
 | [],[] =>True|j::js,o::r=>JN m n h j o/\Hi m n h js r|_,_=>False
def mm:List Nat->List Ob->List Nat
 |j::js,o::r=>bif dx o then mm js r else j::mm js r|_,_=>[]
def Bc:Nat->List Nat->Nat->Bool
 |_,[],_=>true|i,j::js,n=>(Nat.beq i j||Nat.ble n i)&&Bc (i+1) js n
def Eo (js:List Nat)(i:Nat):Option Nat:=nth js i
def Sub (js:List Nat)(n0:Nat)(st st2:St):Prop:=
 (uniq (mm js st2.h)=true/\Bc 0 js n0=true/\js.all (λj=>Nat.blt j st.h.length)=true)/\RY (Eo js) st2.h.length st.t st2.t/\Hi (Eo js) st2.h.length st.h js st2.h
def ve {σ:Type}(D:σ->St)(I:σ->Prop)(m:σ->Nat)(n0:Nat)(x:σ)(id:Nat)(Q:Ex->St->Prop):Ex->St->Prop
 | .normal,st=>∃ y js,I y/\m y<m x/\n0<=(D y).h.length/\Sub js n0 st (D y)| .exit j,st=>bif Nat.beq j id then Q .normal st else Q (.exit j) st| .ret,st=>Q .ret st| .pan x,st=>Q (.pan x) st
def nY:Nat->List SV->List (Nat×SV)
 |_,[] =>[]|n,s::r=>(n,s)::nY (n+1) r
def iK (post:SV->Prop):Option SV->Prop
 |some s=>post s|none=>False
def Ep (m:Bool)(rs:List ResultVar)(ts:Tis)(post:SV->Prop)(pp:Value->Prop):Ex->St->Prop
 | .exit _,_=>False| .normal,st=>iK post (Em m rs ts st)| .ret,st=>iK post (Em m rs ts st)| .pan x,_=>pp x
def Er (n0:Nat)(C:apd):Option SV->List Ob->Prop
 |some s,h=>∃ r s' h' js,C.post r/\C.res r=.ret s' h'/\n0<=h'.length/\Sub js n0 ⟨[(0,s)],h⟩ ⟨[(0,s')],h'⟩|none,_=>False
def LW (n0:Nat)(rs:List ResultVar)(ts:Tis)(C:apd):Ex->St->Prop
 | .exit _,_=>False| .normal,st=>Er n0 C (rj (pi ts st rs)) st.h| .ret,st=>Er n0 C (rj (pi ts st rs)) st.h| .pan x,st=>∃ r h' js,C.post r/\C.res r=.pan x h'/\n0<=h'.length/\Sub js n0 ⟨[],st.h⟩ ⟨[],h'⟩
structure Hd where
 p:Option Nat:=none
 v:Value:=undef
 vs:List Value:=[]
 bs:List Nat:=[]
abbrev Own:=Nat->Option Hd
def cH (F:Nat->Prop)(own:Own)(b:Nat):Prop:=F b\/∃ id hd,own id=some hd/\b∈hd.bs
def dv:Own:=λ_=>none
def Hd.like (a b:Hd):Prop:=b.p=a.p/\b.v=a.v/\b.vs=a.vs
theorem Hd.like.refl (a:Hd):a.like a:=⟨rfl,rfl,rfl⟩
theorem Hd.like.trans {a b c:Hd}(h:a.like b)(h':b.like c):a.like c:=⟨h'.1.trans h.1,h'.2.1.trans h.2.1,h'.2.2.trans h.2.2⟩
def pj:Value->Bool
 | .agg _=>false| .tuple _=>false|_=>true
variable {v:Value}
theorem Es(h:pj v=true):v.cells= #[v]:=by cases v <;>first|rfl|simp[pj]at h
theorem mn(h:pj v=true):v.oneCell'=true:=by cases v <;>first|rfl|simp[pj]at h
def aa6 (x:Value)(sz:Nat)(lo hi:Int)(a:Option Addr):Prop:=hi.toNat<=lo.toNat\/∃ b o n cap,x=.slice (some ⟨b,o,none⟩) n cap/\hi.toNat<=n/\a=some ⟨b,o+lo.toNat*sz,none⟩
inductive Rel (F:Nat->Prop)(own:Own)(w:World):SV->Value->Prop where
 |any (v:Value):Rel F own w .any v
 |v (x:Value):Rel F own w (.v x) x
 |ptr {id off b:Nat} {hd:Hd}:own id=some hd->hd.p=some b->Rel F own w (.ptr id off) (.pointer (some ⟨b,off,none⟩))
 |os {id:Nat} {hd:Hd}:own id=some hd->pj hd.v=true->Rel F own w (.os id) hd.v
 |e0 {a:Option Addr}:Rel F own w .e0 (.slice a 0 0)
 |rc {k:Tag} {l:List k.T} {a:Option Addr}:Rel F own w (.rs k l) (.slice a l.length l.length)->Rel F own w (.rc k l) (.slice a l.length l.length)
 |rp {sz id off n cap b o:Nat} {i:Int} {hd:Hd}:own id=some hd->hd.v=.slice (some ⟨b,o,none⟩) n cap->i.toNat<n->Rel F own w (.rp sz id i off) (.pointer (some ⟨b,o+i.toNat*sz+off,none⟩))
 |gr {id:Nat} {i:Int} {v:Value} {hd:Hd}:own id=some hd->hd.vs[i.toNat]? =some v->pj v=true->Rel F own w (.gr id i) v
 |gp {sz id off n cap b o:Nat} {i j:Int} {hd:Hd}:own id=some hd->hd.vs[i.toNat]? =some (.slice (some ⟨b,o,none⟩) n cap)->j.toNat<n->Rel F own w (.gp sz id i j off) (.pointer (some ⟨b,o+j.toNat*sz+off,none⟩))
 |vw {sz id cap:Nat} {lo hi:Int} {hd:Hd} {a:Option Addr}:own id=some hd->aa6 hd.v sz lo hi a->hi.toNat - lo.toNat<=cap->Rel F own w (.vw sz id lo hi) (.slice a (hi.toNat - lo.toNat) cap)
 |ep {cells:List SV} {off b o:Nat} (c:Nat->Value):
   (∀ j s,cells[j]? =some s->¬cH F own b/\w.cell? ⟨b,o+j,none⟩=some (c j))->(∀ j s,cells[j]? =some s->Rel F own w s (c j))->
   Rel F own w (.ep cells off) (.pointer (some ⟨b,o+off,none⟩))
 |rs {k:Tag} {l:List k.T} {b o cap:Nat} (c:Nat->Nat->Value):l.length<=cap->l.length<=aH->
   (∀ (i:Nat) (x:k.T),l[i]? =some x->∀ (j:Nat) (s:SV),(cellsOf k x)[j]? =some s->¬cH F own b/\w.cell? ⟨b,o+i*aa k+j,none⟩=some (c i j))->
   (∀ (i:Nat) (x:k.T),l[i]? =some x->∀ (j:Nat) (s:SV),(cellsOf k x)[j]? =some s->Rel F own w s (c i j))->
   Rel F own w (.rs k l) (.slice (some ⟨b,o,none⟩) l.length cap)
 |rs0 {k:Tag} {a:Option Addr} {cap:Nat}:Rel F own w (.rs k []) (.slice a 0 cap)
 |ls {z n:Nat} {l:List SV} {b o cap:Nat} (c:Nat->Value):n*z=l.length->n<=cap->
   (∀ j s,l[j]? =some s->¬cH F own b/\w.cell? ⟨b,o+j,none⟩=some (c j))->(∀ j s,l[j]? =some s->Rel F own w s (c j))->
   Rel F own w (.ls z l) (.slice (some ⟨b,o,none⟩) n cap)
 |rm {kk vk:Tag} {l:List (kk.T×vk.T)} {b:Nat} (ck cv:Nat->Value) (es:Array MapEntry) (clock:Nat):¬cH F own b->w.heap[b]? =some (.map es clock)->es.size=l.length->
   (∀ (i:Nat) (x:kk.T×vk.T),l[i]? =some x->∃ n,es[i]? =some ⟨ck i,cv i,n⟩)->
   (∀ (i:Nat) (x:kk.T×vk.T),l[i]? =some x->Rel F own w (svT kk x.1) (ck i))->(∀ (i:Nat) (x:kk.T×vk.T),l[i]? =some x->Rel F own w (svT vk x.2) (cv i))->
   Rel F own w (.rm kk vk l) (.map (some b))
 |rm0 {kk vk:Tag}:Rel F own w (.rm kk vk []) (.map none)
 |agg {l:List SV} {vs:Array Value}:vs.size=l.length->(∀ (j:Nat) (s:SV),l[j]? =some s->Rel F own w s (vs.getD j undef))->Rel F own w (.agg l) (.agg vs)
 |tup {l:List SV} {vs:Array Value}:vs.size=l.length->(∀ (j:Nat) (s:SV),l[j]? =some s->Rel F own w s (vs.getD j undef))->Rel F own w (.tup l) (.tuple vs)
 |fn {f:FuncId} {first caps:List SV} {us vs:Array Value}:us.size=first.length->vs.size=caps.length->(∀ (j:Nat) (s:SV),first[j]? =some s->Rel F own w s (us.getD j undef))->
   (∀ (j:Nat) (s:SV),caps[j]? =some s->Rel F own w s (vs.getD j undef))->Rel F own w (.fn f first caps) (.func (.func f) us vs)
structure apK (F:Nat->Prop)(own:Own)(w:World)(bn:Own)(w':World):Prop where
 ids:∀ (id:Nat) (hd:Hd),own id=some hd->∃ hd',bn id=some hd'/\hd.like hd'
 keep:∀ b,b<w.heap.size->¬cH F own b->¬cH F bn b/\w'.heap[b]? =w.heap[b]?
 size:w.heap.size<=w'.heap.size
structure Bs where
 w:World
 own:Own:=dv
 ds:List Deferred:=[]
def Old (B:Bs)(b:Nat):Prop:=b<B.w.heap.size/\¬ ∃ id hd,B.own id=some hd/\b∈hd.bs
structure Fr (B:Bs)(own:Own)(w:World):Prop where
 ids:∀ (id:Nat) (hd:Hd),B.own id=some hd->∃ hd',own id=some hd'/\hd.like hd'
 base:∀ (id:Nat) (hd:Hd) (b:Nat),own id=some hd->b∈hd.bs->¬Old B b
 os:w.os=B.w.os
 tape:w.tape=B.w.tape
 output:w.output=B.w.output
 size:B.w.heap.size<=w.heap.size
 block:∀ k,Old B k->w.heap[k]? =B.w.heap[k]?
theorem Fr.refl (B:Bs):Fr B B.own B.w:=⟨λ_ hd h=>⟨hd,h,.refl _⟩,λid hd _ h E O=>O.2 ⟨id,hd,h,E⟩,rfl,rfl,rfl,alJ _,λ_ _=>rfl⟩
variable {B:Bs}{w w':World}
theorem Fr.below{own:Own}(h:Fr B own w)(E:Below w.heap.size w w'):Fr B own w':=
 ⟨h.ids,h.base,E.os.trans h.os,E.tape.trans h.tape,E.output.trans h.output,alW h.size E.size,λk O=>(E.block k (alT O.1 h.size)).trans (h.block k O)⟩
theorem Fr.drew{own:Own}(h:Fr B own w):Fr B own { w with drawn:=w.drawn+1}:=⟨h.ids,h.base,h.os,h.tape,h.output,h.size,h.block⟩
variable {bn:Own}
theorem Fr.trans{own:Own}(h:Fr B own w)(h':Fr { w:=w,own:=own} bn w'):Fr B bn w':=by
 have E:∀ k,Old B k->Old { w:=w,own:=own} k:=λk O=>⟨alT O.1 h.size,λ⟨id,hd,hm,U⟩ =>h.base id hd k hm U O⟩;refine⟨λid hd hi=>?_,λid hd b hi U Y=>h'.base id hd b hi U (E b Y),h'.os.trans h.os,h'.tape.trans h.tape,h'.output.trans h.output,alW h.size h'.size,
  λk O=>(h'.block k (E k O)).trans (h.block k O)⟩
 obtain⟨W,e1,l1⟩:=h.ids id hd hi;obtain⟨V,X,l2⟩:=h'.ids id W e1;exact⟨V,X,l1.trans l2⟩
variable {F:Nat->Prop}
theorem Fr.apS{own:Own}(h:Fr { w:=w,own:=own} bn w'):apK F own w bn w':=
 ⟨h.ids,λb X V=>by
  have U:Old { w:=w,own:=own} b:=⟨X,λ⟨id,hd,O,E⟩ =>V (.inr ⟨id,hd,O,E⟩)⟩;refine⟨?_,h.block b U⟩;rintro (W| ⟨id,hd,O,E⟩);exact V (.inl W);exact h.base id hd b O E U,h.size⟩
theorem Fr.ap0{own:Own}(ids:∀ (id:Nat) (hd:Hd),own id=some hd->∃ hd',bn id=some hd'/\hd.like hd')
  (bs:∀ id hd b,bn id=some hd->b∈hd.bs->(∃ E hd',own E=some hd'/\b∈hd'.bs)\/w.heap.size<=b)
  (block:∀ b,b<w.heap.size->(¬ ∃ id hd,own id=some hd/\b∈hd.bs)->w'.heap[b]? =w.heap[b]?) (size:w.heap.size<=w'.heap.size)
  (os:w'.os=w.os) (tape:w'.tape=w.tape) (output:w'.output=w.output):Fr { w:=w,own:=own} bn w':=
 ⟨ids,λid hd b h1 h2 U=>by
  rcases bs id hd b h1 h2 with h|h;exact U.2 h;have:=U.1;grind,os,tape,output,size,λk O=>block k O.1 O.2⟩
def JO{b o:Nat}(h:w.cell? ⟨b,o,none⟩=some v):b<w.heap.size:=World.block_lt_of_cell? w _ h
theorem ut{b:Nat}(h:w'.heap[b]? =w.heap[b]?)(o:Nat):w'.cell? ⟨b,o,none⟩=w.cell? ⟨b,o,none⟩:=by
 grind [World.cell?]
theorem rL{b:Nat}{o:Obj}(h:w.heap[b]? =some o):b<w.heap.size:=by
 grind
structure apz (F:Nat->Prop)(own:Own)(w:World)(F':Nat->Prop)(bn:Own)(w':World):Prop where
 ids:∀ (id:Nat) (hd:Hd),own id=some hd->∃ hd',bn id=some hd'/\hd.like hd'
 keep:∀ b,b<w.heap.size->¬cH F own b->¬cH F' bn b/\w'.heap[b]? =w.heap[b]?
theorem apK.apM{own:Own}(g:apK F own w bn w'):apz F own w F bn w':=⟨g.ids,g.keep⟩
theorem Rel.carry{F':Nat->Prop}{own:Own}(g:apz F own w F' bn w'){s:SV}(h:Rel F own w s v):Rel F' bn w' s v:=by
 induction h with
 |any v=>exact .any v|v x=>exact .v x
 |ptr h1 h2=>obtain⟨hd',e,l⟩:=g.ids _ _ h1;exact .ptr e (l.1.trans h2)
 |os h1 h2=>obtain⟨hd',e,l⟩:=g.ids _ _ h1;rw[<-l.2.1]at h2 |-;exact .os e h2
 |e0=>exact .e0|rc _ O=>exact .rc O
 |rp h1 h2 V=>obtain⟨hd',e,l⟩:=g.ids _ _ h1;exact .rp e (l.2.1.trans h2) V
 |gr h1 h2 V=>obtain⟨hd',e,l⟩:=g.ids _ _ h1;exact .gr e (by rw[l.2.2];exact h2) V
 |gp h1 h2 V=>obtain⟨hd',e,l⟩:=g.ids _ _ h1;exact .gp e (by rw[l.2.2];exact h2) V
 |vw h1 h2 V=>obtain⟨hd',e,l⟩:=g.ids _ _ h1;exact .vw e (by rw[l.2.1];exact h2) V
 |ep c h1 _ O=>
  refine .ep c (λj s hj=>?_) O;obtain⟨hn,hc⟩:=h1 j s hj;obtain⟨U,hk⟩:=g.keep _ (JO hc) hn;grind [ut]
 |rs c E W h1 _ O=>
  refine .rs c E W (λi x hi j s hj=>?_) O;obtain⟨hn,hc⟩:=h1 i x hi j s hj;obtain⟨U,hk⟩:=g.keep _ (JO hc) hn;grind [ut]
 |rs0=>exact .rs0
 |ls c hz E h1 _ O=>
  refine .ls c hz E (λj s hj=>?_) O;obtain⟨hn,hc⟩:=h1 j s hj;obtain⟨U,hk⟩:=g.keep _ (JO hc) hn;grind [ut]
 |rm ck cv es clock E h1 h2 V _ _ Y X=>
  obtain⟨U,hk⟩:=g.keep _ (rL h1) E;exact .rm ck cv es clock U (by grind) h2 V Y X
 |rm0=>exact .rm0|agg E _ O=>exact .agg E O|tup E _ O=>exact .tup E O|fn E W _ _ Y X=>exact .fn E W Y X
theorem Rel.mono{own:Own}(g:apK F own w bn w'){s:SV}(h:Rel F own w s v):Rel F bn w' s v:=h.carry g.apM
theorem apK.refl (F:Nat->Prop)(own:Own)(w:World):apK F own w own w:=⟨λ_ hd h=>⟨hd,h,.refl _⟩,λ_ _ h=>⟨h,rfl⟩,alJ _⟩
theorem qD (w:World)(o:Obj)(b:Nat)(h:b<w.heap.size):(w.alloc o).heap[b]? =w.heap[b]?:=Below.heap_alloc w o b h
theorem kz (w:World)(o:Obj):(w.alloc o).heap[w.heap.size]? =some o:=by show(w.heap.push o)[w.heap.size]? =_;simp
theorem Ov (w:World)(o:Obj):(w.alloc o).heap.size=w.heap.size+1:=by simp_all
theorem apK.below(F:Nat->Prop)(own:Own)(h:Below w.heap.size w w'):apK F own w own w':=
 ⟨λ_ hd h=>⟨hd,h,.refl _⟩,λb E O=>⟨O,h.block b E⟩,h.size⟩
def qE (w:World)(o:Obj):Below w.heap.size w (w.alloc o):=(Below.refl _ _).alloc (alJ _) o
theorem gu {α:Type}:∀ (l:List α) (i:Nat),nth l i=l[i]?
 | [],i=>by simp[nth]
 |x::r,0=>by simp[nth]
 |x::r,i+1=>by simp[nth,gu r i]
theorem qF:∀ l:List SV,sz l=l.length
 | [] =>rfl
 |x::r=>by simp[sz,qF r]
theorem JP:∀ (n:Nat) (l:List SV),cut n l=l.take n
 |0,l=>by simp[cut]
 |n+1,[] =>by simp[cut]
 |n+1,x::r=>by simp[cut,JP n r]
theorem DI:∀ (n:Nat) (l:List SV),LK n l=l.drop n
 |0,l=>by simp[LK]
 |n+1,[] =>by simp[LK]
 |n+1,x::r=>by simp[LK,DI n r]
theorem zT:∀ (l:List SV) (i:Nat) (s:SV),D8 l i s=l.set i s
 | [],i,s=>by simp[D8]
 |x::r,0,s=>by simp[D8]
 |x::r,i+1,s=>by simp[D8,zT r i s]
theorem nC:∀ (vs cells:List SV) (off:Nat),(gK cells off vs).length=cells.length
 | [],cells,off=>rfl
 |x::xs,cells,off=>by simp[gK,nC xs,zT]
theorem ow:∀ (vs cells:List SV) (off:Nat),off+vs.length<=cells.length->∀ j,(gK cells off vs)[j]? =if off<=j/\j<off+vs.length then vs[j - off]? else cells[j]?
 | [],cells,off,_,j=>by simp_all [gK,if_neg]
 |x::xs,cells,off,h,j=>by
  simp only[alL]at h;rw[gK,ow xs _ _ (by simp[zT];omega),zT];grind
theorem tL:∀ (h:List Ob) (id:Nat),ap h id=(h[id]?).getD .dead
 | [],id=>by simp[ap]
 |o::r,0=>by simp[ap]
 |o::r,n+1=>by simp[ap,tL r n]
theorem dy:∀ (h:List Ob) (id:Nat) (x:Ob) (j:Nat),ap (cm h id x) j=if id=j then x else ap h j
 | [],0,x,j=>by cases j <;>simp[cm,ap]
 | [],n+1,x,j=>by
  cases j with
  |zero=>simp[cm,ap]|succ j=>simp only[cm,ap,dy [] n x j];by_cases h:n=j <;>simp[h]
 |o::r,0,x,j=>by cases j <;>simp[cm,ap]
 |o::r,n+1,x,j=>by
  cases j with
  |zero=>simp[cm,ap]|succ j=>simp only[cm,ap,dy r n x j];by_cases h:n=j <;>simp[h]
theorem cA:∀ (h:List Ob) (id:Nat) (x:Ob),(cm h id x).length=if id<h.length then h.length else id+1
 | [],0,x=>by simp[cm]
 | [],n+1,x=>by simp[cm,cA [] n x]
 |o::r,0,x=>by simp[cm]
 |o::r,n+1,x=>by simp only[cm,alL,cA r n x];by_cases h:n<r.length <;>simp[h] <;>omega
theorem mQ {h:List Ob}{id:Nat}(hi:h.length<=id):ap h id=.dead:=by rw[tL,List.getElem?_eq_none hi];rfl
theorem sC (h l:List Ob)(id:Nat):ap (h++l) id=if id<h.length then ap h id else ap l (id - h.length):=by
 grind [tL]
theorem Et{own:Own}{s:SV}{l:List SV}(h:Rel F own w s v)(E:pg s=some l):
  v.cells.size=l.length/\∀ (j:Nat) (x:SV),l[j]? =some x->Rel F own w x (v.cells.getD j undef):=by
 have one:∀ {s:SV} {v:Value},Rel F own w s v->v.cells= #[v]->pg s=some [s]->pg s=some l->v.cells.size=l.length/\∀ (j:Nat) (x:SV),l[j]? =some x->Rel F own w x (v.cells.getD j undef):=by
  intro s v h hc h1 h2;rw[h1]at h2;simp only[alK]at h2;subst h2;rw[hc];refine⟨rfl,λj x W=>?_⟩;cases j <;>simp_all
 cases h with
 |any=>simp[pg]at E
 |v=>
  cases v <;>first|exact one (.v _) rfl rfl E|simp[pg]at E
  subst E;rename_i cs;refine⟨by simp[Value.cells],λj y W=>?_⟩;simp at W;obtain⟨z,X,rfl⟩:=W;simp[Value.cells,X];exact .v _
 |ptr h1 h2=>exact one (.ptr h1 h2) rfl rfl E|os h1 h2=>exact one (.os h1 h2) (Es h2) rfl E|e0=>exact one .e0 rfl rfl E|rc h=>exact one (.rc h) rfl rfl E|rp h1 h2 O=>exact one (.rp h1 h2 O) rfl rfl E|gr h1 h2 O=>exact one (.gr h1 h2 O) (Es O) rfl E|gp h1 h2 O=>exact one (.gp h1 h2 O) rfl rfl E|vw h1 h2 O=>exact one (.vw h1 h2 O) rfl rfl E|ep c h1 h2=>exact one (.ep c h1 h2) rfl rfl E|rs c U V h1 h2=>exact one (.rs c U V h1 h2) rfl rfl E|rs0=>exact one .rs0 rfl rfl E|ls c X U h1 h2=>exact one (.ls c X U h1 h2) rfl rfl E|rm Y cv es clock U h1 h2 O h4 h5=>exact one (.rm Y cv es clock U h1 h2 O h4 h5) rfl rfl E|rm0=>exact one .rm0 rfl rfl E|agg U h1=>simp[pg]at E;subst E;exact⟨U,h1⟩|tup=>simp[pg]at E|fn U V h1 h2=>exact one (.fn U V h1 h2) rfl rfl E
end Go.Sx
end
