/- Part of the proof that the law RefuseLess returns true and leaves its arguments as they were, for all arguments of bulk at most 1048576 (the Upto form). -/
import Derived.Calls
import Derived.Orders
import Derived.Below
import Derived.KernelRfl
import Derived.Laws.Sem
import Derived.Laws.World
import Derived.Laws.Cells
set_option linter.all false
set_option maxHeartbeats 4000000
set_option maxRecDepth 100000
namespace Go.Sx
def alt:=@Bool.and_eq_true
def alu:=@Nat.eq_of_beq_eq_true
def alv:=@Int.toNat_natCast
def alw:=@Nat.le_refl
def alx:=@Option.some.injEq
def aly:=@List.length_cons
def alz:=@List.getElem?_eq_some_iff
def alA:=@List.length_append
def alB:=@Bool.false_eq_true
def alC:=@List.nil_append
def alD:=@List.mem_cons
def alE:=@List.getElem?_eq_getElem
def alF:=@Nat.zero_add
def alG:=@Nat.lt_of_lt_of_le
def alH:=@List.mem_of_getElem?
def alI:=@List.eq_nil_of_length_eq_zero
def alJ:=@List.length_nil
def alK:=@Result.andThen_ok
def alL:=@Bool.not_eq_true'
def alM:=@Nat.mul_le_mul_right
def alN:=@Bool.not_true
def alO:=@List.flatMap_cons
def alP:=@List.mem_cons_of_mem
def alQ:=@Nat.le_trans
def alR:=@List.mem_cons_self
def alS:=@Array.getElem?_append_left
def alT:=@List.append_nil
def alU:=@List.cons_append
def alV:=@Sem.run_bind
def alW:=@Array.getD_eq_getD_getElem?
def alX:=@List.pairwise_append
def alY:=@Bool.or_eq_true
def alZ:=@Bool.not_false
def al0:=@List.all_eq_true
def al1:=@Bool.or_eq_false_iff
def al2:=@Classical.byContradiction
def al3:=@List.pairwise_iff_getElem
def al4:=@Nat.zero_le
def al5:=@Int.le_refl
def al6:=@List.nodup_cons
def al7:=@List.mem_append
def al8:=@List.getElem_of_mem
def al9:=@List.mem_iff_getElem
def al_:=@Int.mul_le_mul_of_nonneg_right
def ama:=@List.pairwise_singleton
def amc:=@List.length_pos_iff
def amd:=@Sum.inr.injEq
def ame:=@List.getElem?_of_mem
def amf:=@List.not_mem_nil
def amg:=@Int.tmod_eq_emod_of_nonneg
def amh:=@List.map_cons
def ami:=@List.mem_singleton
def amj:=@Bool.eq_iff_iff
def amk:=@List.take_append_drop
def aml:=@List.getElem?_map
def amm:=@List.pairwise_mergeSort
def amn:=@List.getElem?_append
def amo:=@List.length_map
def amp:=@List.length_drop
def amq:=@List.length_take
def amr:=@List.mergeSort_perm
def ams:=@Value.slice.injEq
def amt:=@List.append_assoc
def amu:=@List.length_filter_le
def amv:=@Bool.and_eq_false_iff
def amw:=@Nat.lt_irrefl
def amx:=@List.Perm.eq_of_pairwise
def amy:=@Nat.add_zero
def amz:=@Nat.lt_or_ge
def amA:=@List.pairwise_cons
def amB:=@Nat.le_mul_of_pos_right
def amC:=@List.any_eq_true
def amD:=@List.flatMap_nil
def amE:=@Bool.cond_eq_ite
def amF:=@Nat.add_assoc
def amG:=@List.map_nil
def amH:=@Array.getElem?_eq_some_iff
def amI:=@Option.map_eq_some_iff
def amJ:=@List.take_succ_eq_append_getElem
def amK:=@Option.map_some
def amL:=@Array.getElem?_eq_getElem
def amM:=@List.getElem_mem
def amN:=@Bool.not_eq_false'
def amO:=@List.length_filterMap_le
def amP:=@List.nodup_append
def amQ:=@Sem.run_pure
def amR:=@Array.getElem?_append_right
def amS:=@Int.le_ediv_iff_mul_le
def amT:=@Addr.mk.injEq
def amU:=@Bool.or_false
def amV:=@List.range'_succ
def amW:=@List.nodup_nil
def amX:=@List.mem_range
def amY:=@Int.emod_lt_of_pos
def amZ:=@List.getD_eq_getElem?_getD
def am0:=@List.mem_of_mem_take
def am1:=@List.length_range
def am2:=@Prod.mk.injEq
def am3:=@Bool.false_or
def am4:=@List.mem_map_of_mem
def am5:=@Int.toNat_of_nonneg
def am6:=@Option.bind_some
def am7:=@List.take_length
def am8:=@Bool.not_eq_true
def am9:=@Int.ediv_le_ediv
def am_:=@Nat.mul_one
def ana:=@Int.mul_le_mul_of_nonneg_left
def anb:=@List.cons.injEq
def anc:=@Int.emod_nonneg
def ane:=@Bool.true_and
def anf:=@Array.getElem?_toList
def ang:=@List.mem_append_right
def anh:=@List.eq_nil_or_concat
def ani:=@List.concat_eq_append
def anj:=@Int.mul_ediv_add_emod
def ank:=@List.getElem?_set
def anl:=@List.size_toArray
def anm:=@Int.toNat_zero
def ann:=@List.getElem?_append_right
def ano:=@Int.mul_nonneg
def anp:=@Int.le_of_mul_le_mul_right
def anq:=@List.mem_map
def anr:=@Nat.sub_self
def ans:=@List.mem_flatMap
def ant:=@List.getElem?_append_left
def anu:=@List.IsPrefix.trans
def anv:=@Option.isSome_iff_exists
def anw:=@Bool.eq_false_or_eq_true
def anx:=@List.length_set
def anz:=@Nat.mod_lt
def anA:=@List.getElem?_drop
def anB:=@Int.lt_tmod_of_pos
def anC:=@List.filter_filter
def anD:=@List.getElem?_cons_succ
def anE:=@List.pairwise_filterMap
def anF:=@List.pairwise_map
def anG:=@List.getElem?_toArray
def anH:=@Array.getElem?_modify
def anI:=@List.filterMap_append
def anJ:=@Array.eq_empty_of_size_eq_zero
def anK:=@Option.getD_some
def anL:=@List.eq_nil_iff_forall_not_mem
def anM:=@Int.ediv_le_self
def anN:=@List.mem_append_left
def anO:=@Array.getElem?_setIfInBounds
def anP:=@List.map_append
def anQ:=@Nat.div_le_self
def anR:=@List.mem_filter
def anS:=@List.replicate_succ
def anT:=@List.flatMap_append
def anU:=@List.getD_cons_zero
def anV:=@Nat.succ_mul
def anW:=@Int.le_trans
def anX:=@Int.ofNat_zero
def anY:=@Nat.add_sub_cancel
def anZ:=@Nat.mul_le_mul
def an0:=@List.take_zero
def an1:=@List.filter_append
def an2:=@Bool.true_eq_false
def an3:=@Int.lt_trichotomy
def an4:=@Nat.lt_trichotomy
def an5:=@Bool.and_true
def an6:=@Nat.gcd_pos_of_pos_right
def an7:=@Int.mul_tdiv_cancel_left
def an8:=@List.filterMap_cons_some
def an9:=@List.filterMap_cons_none
def an_:=@Nat.mod_eq_of_lt
def aoa:=@List.getElem?_cons_zero
def aob:=@Option.bind_eq_some_iff
def aoc:=@List.flatMap_eq_nil_iff
def aod:=@Int.eq_ofNat_of_zero_le
def aoe:=@List.drop_length
def aof:=@List.filter_cons
def aog:=@Int.tmod_eq_emod
def aoh:=@Nat.add_sub_cancel_left
def aoi:=@List.drop_eq_nil_of_le
def aoj:=@List.getElem?_eraseIdx
def aok:=@Bool.true_or
def aol:=@List.length_eq_one_iff
def aom:=@Classical.em
def aon:=@List.foldl_cons
def aoo:=@List.range_succ
def aop:=@World.cell?_alloc_new
def aoq:=@List.length_mergeSort
def aor:=@List.pairwise_flatMap
def aos:=@Nat.add_mul
def aot:=@Array.getElem_of_mem
def aou:=@List.drop_drop
def aov:=@Int.natAbs_mul
def aow:=@List.mem_of_mem_drop
def aox:=@List.getElem?_set_ne
def aoy:=@Iff.trans
def aoz:=@List.filter_eq_self
def aoA:=@Int.lt_irrefl
def aoB:=@Array.foldl_toList
def aoC:=@Nat.div_mul_cancel
def aoD:=@Nat.eq_or_lt_of_le
def aoE:=@Int.add_emod_right
def aoF:=@Int.tmod_lt_of_pos
def aoG:=@List.mem_filterMap
def aoH:=@Int.cast_ofNat_Int
def aoJ:=@Nat.beq_refl
def aoL:=@Array.ext
def aoM:=@Nat.mod_one
def aoN:=@Nat.sub_mul
def aoO:=@Iff.rfl
end Go.Sx
section
namespace Go.Sx
open Go.RowKit
structure Range where
 lo:Int
 hi:Int
 deriving Inhabited,DecidableEq
structure G2 where
 n:Int
 d:Int
 deriving Inhabited,DecidableEq
structure Reach where
 name:ByteArray
 up:Int
 delay:Int
 cap:Int
 aph:Int
 aoU:Int
 apu:Range
 apc:G2×G2
 deriving Inhabited,DecidableEq
structure apQ where
 name:ByteArray
 reach:Int
 aqr:Int
 apy:Int
 deriving Inhabited,DecidableEq
structure aqv where
 name:ByteArray
 need:Int
 deriving Inhabited,DecidableEq
structure ape where
 name:ByteArray
 kind:Int
 ee:Int
 reach:Int
 aoX:Int
 dd:Int
 since:Int
 to:Int
 every:Int
 length:Int
 deriving Inhabited,DecidableEq
structure aqq where
 name:ByteArray
 ee:Int
 reach:Int
 due:Int
 deriving Inhabited,DecidableEq
structure aqy where
 ee:Int
 reach:Int
 d:Int
 kernel:List Int
 deriving Inhabited,DecidableEq
structure Part where
 ee:Int
 share:G2
 deriving Inhabited,DecidableEq
structure bl where
 no:Int
 kind:Int
 right:Int
 since:Int
 to:Int
 parts:List Part
 of_:Int
 at_:Int
 known:Int
 deriving Inhabited,DecidableEq
structure A1 where
 reach:Int
 hour:Int
 dd:Int
 wanted:Int
 deriving Inhabited,DecidableEq
structure Claim where
 right:Int
 ee:Int
 hour:Int
 dd:Int
 aoX:Int
 deriving Inhabited,DecidableEq
structure Order where
 hour:Int
 index:Int
 dd:Int
 X2:Bool
 deriving Inhabited,DecidableEq
structure T1 where
 C1:Claim
 reach:Int
 deriving Inhabited,DecidableEq
structure W2 where
 kind:Int
 hour:Int
 index:Int
 dd:Int
 limit:Int
 deriving Inhabited,DecidableEq
structure aoK where
 ee:Int
 reach:Int
 deriving Inhabited,DecidableEq
structure ao6 where
 hour:Int
 index:Int
 X2:Bool
 deriving Inhabited,DecidableEq
structure aoS where
 right:Int
 ee:Int
 dd:Int
 aoX:Int
 deriving Inhabited,DecidableEq
structure l5 where
 index:Int
 hour:Int
 deriving Inhabited,DecidableEq
structure x4 where
 right:Int
 ee:Int
 deriving Inhabited,DecidableEq
structure apV where
 cap:Int
 start:Int
 deriving Inhabited,DecidableEq
structure ah where
 name:ByteArray
 hours:Int
 Y2:apV
 reaches:List Reach
 u0:List apQ
 ao1:List aqv
 al:List ape
 aoT:List aqq
 apn:List aqy
 deriving Inhabited,DecidableEq
structure aoV where
 al:List Int
 kind:Int
 reach:Int
 hour:Int
 ao4:List A1
 deriving Inhabited,DecidableEq
structure x7 where
 d:ah
 c:List Claim
 deriving Inhabited,DecidableEq
structure apq where
 apY:List (Int×Int)
 owned:List (aoK×Bool)
 apT:List (aoK×Bool)
 deriving Inhabited,DecidableEq
structure apC where
 d:ah
 l:List Order
 dd:List (ao6×Int)
 asa:List (List Int)
 drawn:List (List Int)
 deriving Inhabited,DecidableEq
inductive Tag where
 |reach|ee|apy|right|apH|int|apL|part|x6|aoR|C1|order|aoQ|X1|fault|bool|ints|M1|aoZ|fnc|holding|bn|gl|Y2|bh|refusal|range|ratio|apw|zs|ao9|ao7|str
 deriving DecidableEq
abbrev Tag.T:Tag->Type
 | .reach=>Reach| .ee=>apQ| .apy=>aqv| .right=>ape| .apH=>aqq| .int=>Int| .apL=>aqy| .part=>Part| .x6=>bl| .aoR=>A1| .C1=>Claim| .order=>Order| .aoQ=>Int×Int| .X1=>T1| .fault=>W2| .bool=>Bool| .ints=>List Int| .M1=>aoK| .aoZ=>ao6| .fnc=>Option Nat| .holding=>aoS| .bn=>l5| .gl=>x4| .Y2=>apV| .bh=>ah| .refusal=>aoV| .range=>Range| .ratio=>G2| .apw=>G2×G2| .zs=>x7| .ao9=>apq| .ao7=>apC| .str=>ByteArray
def zm:Tag->Nat
 | .reach=>0| .ee=>1| .apy=>2| .right=>3| .apH=>4| .int=>5| .apL=>6| .part=>7| .x6=>8| .aoR=>9| .C1=>10| .order=>11| .aoQ=>12| .X1=>13| .fault=>14| .bool=>15| .ints=>16| .M1=>17| .aoZ=>18| .fnc=>19| .holding=>20| .bn=>21| .gl=>22| .Y2=>23| .bh=>24| .refusal=>25| .range=>26| .ratio=>27| .apw=>28| .zs=>29| .ao9=>30| .ao7=>31| .str=>32
def aoX:Tag->Nat
 | .reach=>0| .ee=>0| .apy=>0| .right=>0| .apH=>0| .int=>0| .apL=>1| .part=>0| .x6=>1| .aoR=>0| .C1=>0| .order=>0| .aoQ=>0| .X1=>0| .fault=>0| .bool=>0| .ints=>1| .M1=>0| .aoZ=>0| .fnc=>1| .holding=>0| .bn=>0| .gl=>0| .Y2=>0| .bh=>2| .refusal=>1| .range=>0| .ratio=>0| .apw=>0| .zs=>2| .ao9=>1| .ao7=>2| .str=>0
def Tag.ofName:String->Option Tag
 | "api.Reach" =>some .reach
 | "api.Farm" =>some .ee
 | "api.Crop" =>some .apy
 | "api.Right" =>some .right
 | "api.Duty" =>some .apH
 | "api.Errno" =>some .int
 | "expand.refused" =>some .int
 | "int" =>some .int
 | "int64" =>some .int
 | "api.Well" =>some .apL
 | "api.Part" =>some .part
 | "api.Deed" =>some .x6
 | "api.Parcel" =>some .aoR
 | "api.Claim" =>some .C1
 | "api.Order" =>some .order
 | "[2]int" =>some .aoQ
 | "refuse.place" =>some .aoQ
 | "claims.found" =>some .X1
 | "api.Fault" =>some .fault
 | "bool" =>some .bool
 | "[]int" =>some .ints
 | "claims.use" =>some .M1
 | "certify.place" =>some .aoZ
 | "func(api.Order) int" =>some .fnc
 | "func(register.book, api.Deed, int)" =>some .fnc
 | "iter.Seq[acequia/api.Fault]" =>some .fnc
 | "api.Holding" =>some .holding
 | "timetable.slot" =>some .bn
 | "register.title" =>some .gl
 | "api.Tank" =>some .Y2
 | "api.District" =>some .bh
 | "api.Refusal" =>some .refusal
 | "api.Range" =>some .range
 | "api.Ratio" =>some .ratio
 | "[2]api.Ratio" =>some .apw
 | "refuse.scene" =>some .zs
 | "claims.law" =>some .ao9
 | "certify.table" =>some .ao7
 | "string" =>some .str
 |_=>none
instance instDecTag:(k:Tag)->DecidableEq k.T
 | .reach=>inferInstanceAs (DecidableEq (Reach))| .ee=>inferInstanceAs (DecidableEq (apQ))| .apy=>inferInstanceAs (DecidableEq (aqv))| .right=>inferInstanceAs (DecidableEq (ape))| .apH=>inferInstanceAs (DecidableEq (aqq))| .int=>inferInstanceAs (DecidableEq (Int))| .apL=>inferInstanceAs (DecidableEq (aqy))| .part=>inferInstanceAs (DecidableEq (Part))| .x6=>inferInstanceAs (DecidableEq (bl))| .aoR=>inferInstanceAs (DecidableEq (A1))| .C1=>inferInstanceAs (DecidableEq (Claim))| .order=>inferInstanceAs (DecidableEq (Order))| .aoQ=>inferInstanceAs (DecidableEq (Int×Int))| .X1=>inferInstanceAs (DecidableEq (T1))| .fault=>inferInstanceAs (DecidableEq (W2))| .bool=>inferInstanceAs (DecidableEq (Bool))| .ints=>inferInstanceAs (DecidableEq (List Int))| .M1=>inferInstanceAs (DecidableEq (aoK))| .aoZ=>inferInstanceAs (DecidableEq (ao6))| .fnc=>inferInstanceAs (DecidableEq (Option Nat))| .holding=>inferInstanceAs (DecidableEq (aoS))| .bn=>inferInstanceAs (DecidableEq (l5))| .gl=>inferInstanceAs (DecidableEq (x4))| .Y2=>inferInstanceAs (DecidableEq (apV))| .bh=>inferInstanceAs (DecidableEq (ah))| .refusal=>inferInstanceAs (DecidableEq (aoV))| .range=>inferInstanceAs (DecidableEq (Range))| .ratio=>inferInstanceAs (DecidableEq (G2))| .apw=>inferInstanceAs (DecidableEq (G2×G2))| .zs=>inferInstanceAs (DecidableEq (x7))| .ao9=>inferInstanceAs (DecidableEq (apq))| .ao7=>inferInstanceAs (DecidableEq (apC))| .str=>inferInstanceAs (DecidableEq (ByteArray))
structure Res where
 yv:Value
 n:Nat
 R:(Nat->Prop)->List Nat->World->Prop
 loc:∀ (F F':Nat->Prop) (bs:List Nat) (w w':World),R F bs w->w.heap.size<=w'.heap.size->(∀ b,b<w.heap.size->¬F b->w'.heap[b]? =w.heap[b]?)->(∀ b,b<w.heap.size->F' b->F b)->R F' bs w'
instance:Inhabited Res:=⟨⟨.nilFunc,0,λ_ _ _=>True,λ_ _ _ _ _ _ _ _ _=>trivial⟩⟩
inductive SV where
 |any
 |v (x:Value)
 |ptr (id off:Nat)
 |os (id:Nat)
 |e0
 |rp (sz id:Nat) (i:Int) (off:Nat)
 |gr (id:Nat) (i:Int)
 |gp (sz id:Nat) (i j:Int) (off:Nat)
 |ep (cells:List SV) (off:Nat)
 |rs (k:Tag) (l:List k.T)
 |ls (s:Nat) (l:List SV)
 |rm (kk vk:Tag) (l:List (kk.T×vk.T))
 |agg (l:List SV)
 |tup (l:List SV)
 |fn (f:FuncId) (first caps:List SV)
 |nw (k:Tag) (l:List k.T)
 |nm (kk vk:Tag) (l:List (kk.T×vk.T))
 |ng (k:Tag) (l:List (List k.T))
 |gd (j:Nat) (want:Bool) (s:SV)
 |vw (sz id:Nat) (lo hi:Int)
 |rc (k:Tag) (l:List k.T)
 deriving Inhabited
abbrev SV.i (n:Int):SV:=.v (.int .i64 n)
abbrev SV.b (x:Bool):SV:=.v (.bool x)
abbrev SV.s (x:ByteArray):SV:=.v (.string x)
def fnV:Option Nat->SV|some f=>.fn f [] [] |none=>.v .nilFunc
def cellsOf:(k:Tag)->k.T->List SV
 | .reach,x=>[.v (.string x.name),.v (.int .i64 x.up),.v (.int .i64 x.delay),.v (.int .i64 x.cap),.v (.int .i64 x.aph),.v (.int .i64 x.aoU),.v (.int .i64 x.apu.lo),.v (.int .i64 x.apu.hi),.v (.int .i64 x.apc.1.n),.v (.int .i64 x.apc.1.d),.v (.int .i64 x.apc.2.n),.v (.int .i64 x.apc.2.d)]| .ee,x=>[.v (.string x.name),.v (.int .i64 x.reach),.v (.int .i64 x.aqr),.v (.int .i64 x.apy)]| .apy,x=>[.v (.string x.name),.v (.int .i64 x.need)]| .right,x=>[.v (.string x.name),.v (.int .i64 x.kind),.v (.int .i64 x.ee),.v (.int .i64 x.reach),.v (.int .i64 x.aoX),.v (.int .i64 x.dd),.v (.int .i64 x.since),.v (.int .i64 x.to),.v (.int .i64 x.every),.v (.int .i64 x.length)]| .apH,x=>[.v (.string x.name),.v (.int .i64 x.ee),.v (.int .i64 x.reach),.v (.int .i64 x.due)]| .int,x=>[.v (.int .i64 x)]| .apL,x=>[.v (.int .i64 x.ee),.v (.int .i64 x.reach),.v (.int .i64 x.d),.rs .int x.kernel]| .part,x=>[.v (.int .i64 x.ee),.v (.int .i64 x.share.n),.v (.int .i64 x.share.d)]| .x6,x=>[.v (.int .i64 x.no),.v (.int .i64 x.kind),.v (.int .i64 x.right),.v (.int .i64 x.since),.v (.int .i64 x.to),.rs .part x.parts,.v (.int .i64 x.of_),.v (.int .i64 x.at_),.v (.int .i64 x.known)]| .aoR,x=>[.v (.int .i64 x.reach),.v (.int .i64 x.hour),.v (.int .i64 x.dd),.v (.int .i64 x.wanted)]| .C1,x=>[.v (.int .i64 x.right),.v (.int .i64 x.ee),.v (.int .i64 x.hour),.v (.int .i64 x.dd),.v (.int .i64 x.aoX)]| .order,x=>[.v (.int .i64 x.hour),.v (.int .i64 x.index),.v (.int .i64 x.dd),.v (.bool x.X2)]| .aoQ,x=>[.v (.int .i64 x.1),.v (.int .i64 x.2)]| .X1,x=>[.v (.int .i64 x.C1.right),.v (.int .i64 x.C1.ee),.v (.int .i64 x.C1.hour),.v (.int .i64 x.C1.dd),.v (.int .i64 x.C1.aoX),.v (.int .i64 x.reach)]| .fault,x=>[.v (.int .i64 x.kind),.v (.int .i64 x.hour),.v (.int .i64 x.index),.v (.int .i64 x.dd),.v (.int .i64 x.limit)]| .bool,x=>[.v (.bool x)]| .ints,x=>[.rs .int x]| .M1,x=>[.v (.int .i64 x.ee),.v (.int .i64 x.reach)]| .aoZ,x=>[.v (.int .i64 x.hour),.v (.int .i64 x.index),.v (.bool x.X2)]| .fnc,x=>[fnV x]| .holding,x=>[.v (.int .i64 x.right),.v (.int .i64 x.ee),.v (.int .i64 x.dd),.v (.int .i64 x.aoX)]| .bn,x=>[.v (.int .i64 x.index),.v (.int .i64 x.hour)]| .gl,x=>[.v (.int .i64 x.right),.v (.int .i64 x.ee)]| .Y2,x=>[.v (.int .i64 x.cap),.v (.int .i64 x.start)]| .bh,x=>[.v (.string x.name),.v (.int .i64 x.hours),.v (.int .i64 x.Y2.cap),.v (.int .i64 x.Y2.start),.rs .reach x.reaches,.rs .ee x.u0,.rs .apy x.ao1,.rs .right x.al,.rs .apH x.aoT,.rs .apL x.apn]| .refusal,x=>[.rs .int x.al,.v (.int .i64 x.kind),.v (.int .i64 x.reach),.v (.int .i64 x.hour),.rs .aoR x.ao4]| .range,x=>[.v (.int .i64 x.lo),.v (.int .i64 x.hi)]| .ratio,x=>[.v (.int .i64 x.n),.v (.int .i64 x.d)]| .apw,x=>[.v (.int .i64 x.1.n),.v (.int .i64 x.1.d),.v (.int .i64 x.2.n),.v (.int .i64 x.2.d)]| .zs,x=>[.v (.string x.d.name),.v (.int .i64 x.d.hours),.v (.int .i64 x.d.Y2.cap),.v (.int .i64 x.d.Y2.start),.rs .reach x.d.reaches,.rs .ee x.d.u0,.rs .apy x.d.ao1,.rs .right x.d.al,.rs .apH x.d.aoT,.rs .apL x.d.apn,.rs .C1 x.c]| .ao9,x=>[.rm .int .int x.apY,.rm .M1 .bool x.owned,.rm .M1 .bool x.apT]| .ao7,x=>[.v (.string x.d.name),.v (.int .i64 x.d.hours),.v (.int .i64 x.d.Y2.cap),.v (.int .i64 x.d.Y2.start),.rs .reach x.d.reaches,.rs .ee x.d.u0,.rs .apy x.d.ao1,.rs .right x.d.al,.rs .apH x.d.aoT,.rs .apL x.d.apn,.rs .order x.l,.rm .aoZ .int x.dd,.rs .ints x.asa,.rs .ints x.drawn]| .str,x=>[.v (.string x)]
def aa:Tag->Nat
 | .reach=>12| .ee=>4| .apy=>2| .right=>10| .apH=>4| .int=>1| .apL=>4| .part=>3| .x6=>9| .aoR=>4| .C1=>5| .order=>4| .aoQ=>2| .X1=>6| .fault=>5| .bool=>1| .ints=>1| .M1=>2| .aoZ=>3| .fnc=>1| .holding=>4| .bn=>2| .gl=>2| .Y2=>2| .bh=>10| .refusal=>5| .range=>2| .ratio=>2| .apw=>4| .zs=>11| .ao9=>3| .ao7=>14| .str=>1
theorem bE (k:Tag)(x:k.T):(cellsOf k x).length=aa k:=by cases k <;>rfl
def eC:(k:Tag)->k.T
 | .reach=>(default:Reach)| .ee=>(default:apQ)| .apy=>(default:aqv)| .right=>(default:ape)| .apH=>(default:aqq)| .int=>(0:Int)| .apL=>(default:aqy)| .part=>(default:Part)| .x6=>(default:bl)| .aoR=>(default:A1)| .C1=>(default:Claim)| .order=>(default:Order)| .aoQ=>(default:Int×Int)| .X1=>(default:T1)| .fault=>(default:W2)| .bool=>false| .ints=>(default:List Int)| .M1=>(default:aoK)| .aoZ=>(default:ao6)| .fnc=>(default:Option Nat)| .holding=>(default:aoS)| .bn=>(default:l5)| .gl=>(default:x4)| .Y2=>(default:apV)| .bh=>(default:ah)| .refusal=>(default:aoV)| .range=>(default:Range)| .ratio=>(default:G2)| .apw=>(default:G2×G2)| .zs=>(default:x7)| .ao9=>(default:apq)| .ao7=>(default:apC)| .str=>(ByteArray.mk #[])
inductive Kd where
 |s|b|n (k:IntKind) |r (k:Tag) |m (k k2:Tag) |f
def oi:Tag->Bool
 | .reach=>true| .ee=>true| .apy=>true| .right=>true| .apH=>true| .int=>false| .apL=>true| .part=>true| .x6=>true| .aoR=>true| .C1=>true| .order=>true| .aoQ=>true| .X1=>true| .fault=>true| .bool=>false| .ints=>false| .M1=>true| .aoZ=>true| .fnc=>false| .holding=>true| .bn=>true| .gl=>true| .Y2=>true| .bh=>true| .refusal=>true| .range=>true| .ratio=>true| .apw=>true| .zs=>true| .ao9=>true| .ao7=>true| .str=>false
def KZ:(k:Tag)->List (List k.T)->SV
 | .int,l=>.rs .ints l|_,_=>.any
def dN:Tag->List Kd
 | .reach=>[.s,.n .i64,.n .i64,.n .i64,.n .i64,.n .i64,.n .i64,.n .i64,.n .i64,.n .i64,.n .i64,.n .i64]| .ee=>[.s,.n .i64,.n .i64,.n .i64]| .apy=>[.s,.n .i64]| .right=>[.s,.n .i64,.n .i64,.n .i64,.n .i64,.n .i64,.n .i64,.n .i64,.n .i64,.n .i64]| .apH=>[.s,.n .i64,.n .i64,.n .i64]| .int=>[.n .i64]| .apL=>[.n .i64,.n .i64,.n .i64,.r .int]| .part=>[.n .i64,.n .i64,.n .i64]| .x6=>[.n .i64,.n .i64,.n .i64,.n .i64,.n .i64,.r .part,.n .i64,.n .i64,.n .i64]| .aoR=>[.n .i64,.n .i64,.n .i64,.n .i64]| .C1=>[.n .i64,.n .i64,.n .i64,.n .i64,.n .i64]| .order=>[.n .i64,.n .i64,.n .i64,.b]| .aoQ=>[.n .i64,.n .i64]| .X1=>[.n .i64,.n .i64,.n .i64,.n .i64,.n .i64,.n .i64]| .fault=>[.n .i64,.n .i64,.n .i64,.n .i64,.n .i64]| .bool=>[.b]| .ints=>[.r .int]| .M1=>[.n .i64,.n .i64]| .aoZ=>[.n .i64,.n .i64,.b]| .fnc=>[.f]| .holding=>[.n .i64,.n .i64,.n .i64,.n .i64]| .bn=>[.n .i64,.n .i64]| .gl=>[.n .i64,.n .i64]| .Y2=>[.n .i64,.n .i64]| .bh=>[.s,.n .i64,.n .i64,.n .i64,.r .reach,.r .ee,.r .apy,.r .right,.r .apH,.r .apL]| .refusal=>[.r .int,.n .i64,.n .i64,.n .i64,.r .aoR]| .range=>[.n .i64,.n .i64]| .ratio=>[.n .i64,.n .i64]| .apw=>[.n .i64,.n .i64,.n .i64,.n .i64]| .zs=>[.s,.n .i64,.n .i64,.n .i64,.r .reach,.r .ee,.r .apy,.r .right,.r .apH,.r .apL,.r .C1]| .ao9=>[.m .int .int,.m .M1 .bool,.m .M1 .bool]| .ao7=>[.s,.n .i64,.n .i64,.n .i64,.r .reach,.r .ee,.r .apy,.r .right,.r .apH,.r .apL,.r .order,.m .aoZ .int,.r .ints,.r .ints]| .str=>[.s]
def toI:SV->Int| .v (.int _ n) =>n|_=>0
def toB:SV->Bool| .v (.bool b) =>b|_=>false
def toS:SV->ByteArray| .v (.string s) =>s|_=>ByteArray.mk #[]
def toF:SV->Option Nat| .fn f [] [] =>some f|_=>none
def t7:SV->List Reach| .rs .reach l=>l|_=>[]
def wj:SV->List apQ| .rs .ee l=>l|_=>[]
def wl:SV->List aqv| .rs .apy l=>l|_=>[]
def t8:SV->List ape| .rs .right l=>l|_=>[]
def wn:SV->List aqq| .rs .apH l=>l|_=>[]
def zn:SV->List Int| .rs .int l=>l|_=>[]
def wo:SV->List aqy| .rs .apL l=>l|_=>[]
def DB:SV->List Part| .rs .part l=>l|_=>[]
def K1:SV->List bl| .rs .x6 l=>l|_=>[]
def yH:SV->List A1| .rs .aoR l=>l|_=>[]
def AM:SV->List Claim| .rs .C1 l=>l|_=>[]
def AN:SV->List Order| .rs .order l=>l|_=>[]
def K2:SV->List (Int×Int) | .rs .aoQ l=>l|_=>[]
def vM:SV->List T1| .rs .X1 l=>l|_=>[]
def HN:SV->List W2| .rs .fault l=>l|_=>[]
def K3:SV->List Bool| .rs .bool l=>l|_=>[]
def zo:SV->List (List Int) | .rs .ints l=>l|_=>[]
def yj:SV->List aoK| .rs .M1 l=>l|_=>[]
def t_:SV->List ao6| .rs .aoZ l=>l|_=>[]
def Pr:SV->List (Option Nat) | .rs .fnc l=>l|_=>[]
def B8:SV->List aoS| .rs .holding l=>l|_=>[]
def tu:SV->List l5| .rs .bn l=>l|_=>[]
def tw:SV->List x4| .rs .gl l=>l|_=>[]
def K4:SV->List apV| .rs .Y2 l=>l|_=>[]
def zp:SV->List ah| .rs .bh l=>l|_=>[]
def B9:SV->List aoV| .rs .refusal l=>l|_=>[]
def HO:SV->List Range| .rs .range l=>l|_=>[]
def HP:SV->List G2| .rs .ratio l=>l|_=>[]
def DC:SV->List (G2×G2) | .rs .apw l=>l|_=>[]
def vN:SV->List x7| .rs .zs l=>l|_=>[]
def yk:SV->List apq| .rs .ao9 l=>l|_=>[]
def ua:SV->List apC| .rs .ao7 l=>l|_=>[]
def Ps:SV->List ByteArray| .rs .str l=>l|_=>[]
def lH:SV->List (ao6×Int) | .rm .aoZ .int l=>l|_=>[]
def ke:SV->List (aoK×Bool) | .rm .M1 .bool l=>l|_=>[]
def wp:SV->List (Int×Int) | .rm .int .int l=>l|_=>[]
def at0:List SV->Nat->SV
 | [],_=>.any|x::_,0=>x|_::r,n+1=>at0 r n
def mkE:(k:Tag)->List SV->k.T
 | .reach,l=>(⟨toS (at0 l 0),toI (at0 l 1),toI (at0 l 2),toI (at0 l 3),toI (at0 l 4),toI (at0 l 5),⟨toI (at0 l 6),toI (at0 l 7)⟩,(⟨toI (at0 l 8),toI (at0 l 9)⟩,⟨toI (at0 l 10),toI (at0 l 11)⟩)⟩:Reach)| .ee,l=>(⟨toS (at0 l 0),toI (at0 l 1),toI (at0 l 2),toI (at0 l 3)⟩:apQ)| .apy,l=>(⟨toS (at0 l 0),toI (at0 l 1)⟩:aqv)| .right,l=>(⟨toS (at0 l 0),toI (at0 l 1),toI (at0 l 2),toI (at0 l 3),toI (at0 l 4),toI (at0 l 5),toI (at0 l 6),toI (at0 l 7),toI (at0 l 8),toI (at0 l 9)⟩:ape)| .apH,l=>(⟨toS (at0 l 0),toI (at0 l 1),toI (at0 l 2),toI (at0 l 3)⟩:aqq)| .int,l=>(toI (at0 l 0):Int)| .apL,l=>(⟨toI (at0 l 0),toI (at0 l 1),toI (at0 l 2),zn (at0 l 3)⟩:aqy)| .part,l=>(⟨toI (at0 l 0),⟨toI (at0 l 1),toI (at0 l 2)⟩⟩:Part)| .x6,l=>(⟨toI (at0 l 0),toI (at0 l 1),toI (at0 l 2),toI (at0 l 3),toI (at0 l 4),DB (at0 l 5),toI (at0 l 6),toI (at0 l 7),toI (at0 l 8)⟩:bl)| .aoR,l=>(⟨toI (at0 l 0),toI (at0 l 1),toI (at0 l 2),toI (at0 l 3)⟩:A1)| .C1,l=>(⟨toI (at0 l 0),toI (at0 l 1),toI (at0 l 2),toI (at0 l 3),toI (at0 l 4)⟩:Claim)| .order,l=>(⟨toI (at0 l 0),toI (at0 l 1),toI (at0 l 2),toB (at0 l 3)⟩:Order)| .aoQ,l=>((toI (at0 l 0),toI (at0 l 1)):Int×Int)| .X1,l=>(⟨⟨toI (at0 l 0),toI (at0 l 1),toI (at0 l 2),toI (at0 l 3),toI (at0 l 4)⟩,toI (at0 l 5)⟩:T1)| .fault,l=>(⟨toI (at0 l 0),toI (at0 l 1),toI (at0 l 2),toI (at0 l 3),toI (at0 l 4)⟩:W2)| .bool,l=>(toB (at0 l 0):Bool)| .ints,l=>(zn (at0 l 0):List Int)| .M1,l=>(⟨toI (at0 l 0),toI (at0 l 1)⟩:aoK)| .aoZ,l=>(⟨toI (at0 l 0),toI (at0 l 1),toB (at0 l 2)⟩:ao6)| .fnc,l=>(toF (at0 l 0):Option Nat)| .holding,l=>(⟨toI (at0 l 0),toI (at0 l 1),toI (at0 l 2),toI (at0 l 3)⟩:aoS)| .bn,l=>(⟨toI (at0 l 0),toI (at0 l 1)⟩:l5)| .gl,l=>(⟨toI (at0 l 0),toI (at0 l 1)⟩:x4)| .Y2,l=>(⟨toI (at0 l 0),toI (at0 l 1)⟩:apV)| .bh,l=>(⟨toS (at0 l 0),toI (at0 l 1),⟨toI (at0 l 2),toI (at0 l 3)⟩,t7 (at0 l 4),wj (at0 l 5),wl (at0 l 6),t8 (at0 l 7),wn (at0 l 8),wo (at0 l 9)⟩:ah)| .refusal,l=>(⟨zn (at0 l 0),toI (at0 l 1),toI (at0 l 2),toI (at0 l 3),yH (at0 l 4)⟩:aoV)| .range,l=>(⟨toI (at0 l 0),toI (at0 l 1)⟩:Range)| .ratio,l=>(⟨toI (at0 l 0),toI (at0 l 1)⟩:G2)| .apw,l=>((⟨toI (at0 l 0),toI (at0 l 1)⟩,⟨toI (at0 l 2),toI (at0 l 3)⟩):G2×G2)| .zs,l=>(⟨⟨toS (at0 l 0),toI (at0 l 1),⟨toI (at0 l 2),toI (at0 l 3)⟩,t7 (at0 l 4),wj (at0 l 5),wl (at0 l 6),t8 (at0 l 7),wn (at0 l 8),wo (at0 l 9)⟩,AM (at0 l 10)⟩:x7)| .ao9,l=>(⟨wp (at0 l 0),ke (at0 l 1),ke (at0 l 2)⟩:apq)| .ao7,l=>(⟨⟨toS (at0 l 0),toI (at0 l 1),⟨toI (at0 l 2),toI (at0 l 3)⟩,t7 (at0 l 4),wj (at0 l 5),wl (at0 l 6),t8 (at0 l 7),wn (at0 l 8),wo (at0 l 9)⟩,AN (at0 l 10),lH (at0 l 11),zo (at0 l 12),zo (at0 l 13)⟩:apC)| .str,l=>(toS (at0 l 0):ByteArray)
def kN:IntKind->Nat
 | .i8=>0| .i16=>1| .i32=>2| .i64=>3| .u8=>4| .u16=>5| .u32=>6| .u64=>7
def fit:Kd->SV->Bool
 | .s,.v (.string _) =>true| .b,.v (.bool _) =>true| .n k,.v (.int k' _) =>Nat.beq (kN k) (kN k')| .r k,.rs k' _=>Nat.beq (zm k) (zm k')| .m k k2,.rm k' k2' _=>Nat.beq (zm k) (zm k')&&Nat.beq (zm k2) (zm k2')| .f,.fn _ [] [] =>true| .f,.v .nilFunc=>true|_,_=>false
def ub:List Kd->List SV->Bool
 | [],[] =>true|k::ks,x::xs=>fit k x&&ub ks xs|_,_=>false
def K5:Kd->SV->SV
 | .r k,.v (.slice none 0 0) =>.rs k []| .r k,.e0=>.rs k []| .m k k2,.v (.map none) =>.rm k k2 []|_,s=>s
def xR:List Kd->List SV->List SV
 |k::ks,s::r=>K5 k s::xR ks r|_,l=>l
def vO (k:Tag)(l:List SV):Option k.T:=bif ub (dN k) l then some (mkE k l)else none
def oj (k:Tag)(l:List SV):Option k.T:=vO k (xR (dN k) l)
inductive Pk where
 |st (k:Tag)
 |sl (k:Tag)
 |mp (k k2:Tag)
 |o
def AO:Pk->SV->SV
 | .st k,.agg l=>.agg (xR (dN k) l)| .sl k,s=>K5 (.r k) s| .mp k k2,s=>K5 (.m k k2) s|_,s=>s
def yI:List Pk->List SV->List SV
 |p::ps,s::r=>AO p s::yI ps r|_,l=>l
structure TI where
 size:Nat
 bytes:Nat
 agg:Bool
 zero:List SV
 fields:List (Nat×Nat×Bool)
 elem:Nat
 len:Nat
 isSlice:Bool
 apK:Bool
 tag:Option Tag
 int:Option IntKind
 iface:Bool
 eq:List Nat
 mkt:Option Tag
 mvt:Option Tag
 sc:Nat
def svs (v:Value):List SV:=v.cells.toList.map .v
def nU (P:Program)(t:TypeId):Nat:=match P.info? t with|some i=>i.size|none=>0
def kf (P:Program)(t:TypeId):Bool:=match P.underlying t with|some (.struct _) =>true|some (.array _ _) =>true|_=>false
def cw:Option TypeDesc->Nat
 |some (.int _) =>1|some .string=>2|some .bool=>3|_=>0
def eqFields (P:Program):Nat->List Field->Bool
 |_,[] =>true
 |n,f::r=>(f.name != "_")&&Nat.beq f.offset n&&Nat.blt 0 (cw (P.underlying f.type))&&eqFields P (n+1) r
def nL (P:Program)(t:TypeId)(d:TypeDesc):List Nat:=match d with
 | .struct fs=>bif !P.stoodInHeld t&& !P.eqGuardType P.depth t&&eqFields P 0 fs.toList then fs.toList.map λf=>cw (P.underlying f.type)else []
 | .array n e=>bif !P.eqGuardType P.depth t&&Nat.blt 0 (cw (P.underlying e))&&Nat.beq (nU P e) 1 then List.replicate n (cw (P.underlying e))else []|_=>[]
def qx (P:Program)(t:TypeId):List Nat:=match P.underlying t with
 |some (.struct gs) =>bif !P.stoodInHeld t&&eqFields P 0 gs.toList&&Nat.beq (nU P t) gs.size&&(P.info? t).isSome then gs.toList.map λf=>cw (P.underlying f.type)else []
 |d=>bif Nat.blt 0 (cw d)then [cw d]else []
def uc (P:Program):Nat->List Field->Bool
 |_,[] =>true
 |n,f::r=>(f.name != "_")&&Nat.beq f.offset n&&Nat.blt 0 (qx P f.type).length&&uc P (n+(qx P f.type).length) r
def I0 (P:Program)(t:TypeId)(d:TypeDesc):List Nat:=match d with
 | .struct fs=>bif !P.stoodInHeld t&& !P.eqGuardType P.depth t&&uc P 0 fs.toList then fs.toList.flatMap λf=>qx P f.type else []
 |_=>[]
def Tv (P:Program)(t:TypeId)(d:TypeDesc):List Nat:=match nL P t d with
 | [] =>I0 P t d|l=>l
def Pt:SV->SV->Bool
 | .v (.int k a),.v (.int k' b) =>Nat.beq (kN k) (kN k')&&(match a,b with| .ofNat 0,.ofNat 0=>true|_,_=>false)
 | .v (.string a),.v (.string b) =>Nat.beq a.size 0&&Nat.beq b.size 0| .v (.bool false),.v (.bool false) =>true| .rs _ [],.v (.slice none 0 0) =>true| .rm _ _ [],.v (.map none) =>true| .v .nilFunc,.v .nilFunc=>true|_,_=>false
def uS:List SV->List SV->Bool
 | [],[] =>true|a::r,b::s=>Pt a b&&uS r s|_,_=>false
def CE:Bool->Bool->Bool
 |true,true=>true|false,false=>true|_,_=>false
def DD:Value->Bool
 | .agg _=>true|_=>false
def DE (P:Program)(t:TypeId)(i:TypeInfo)(k:Tag):Bool:=
 (match i.zero with|some z=>CE (DD z) (oi k) |none=>false)&&Nat.beq i.size (aa k)&&Nat.ble 1 i.bytes&&uS (cellsOf k (eC k)) (match i.zero with|some z=>svs z|none=>[])&&CE (kf P t) (oi k)
def yl (P:Program)(t:TypeId)(i:TypeInfo):Option Tag:=match Tag.ofName i.str with|some k=>bif DE P t i k then some k else none|none=>none
def K6 (P:Program)(t:TypeId):Option Tag:=match P.info? t with|some i=>yl P t i|none=>none
def jk:Kd->Nat
 | .n _=>1| .s=>2| .b=>3|_=>0
def DF:List Nat->List Nat->Bool
 | [],[] =>true|a::r,b::s=>Nat.beq a b&&DF r s|_,_=>false
def Nv (P:Program)(t:TypeId)(k:Tag):Bool:=match P.underlying t with
 |some d=>bif kf P t then DF ((dN k).map jk) (nL P t d)&&Nat.blt 0 (dN k).length else DF ((dN k).map jk) [cw (some d)]&&Nat.blt 0 (cw (some d))|none=>false
def K7 (P:Program)(t:TypeId):Option Tag:=match K6 P t with|some k=>bif Nv P t k then some k else none|none=>none
def dL (P:Program)(t:TypeId)(i:TypeInfo)(d:TypeDesc):TI:=
 {size:=i.size
  bytes:=i.bytes
  agg:=kf P t
  zero:=match i.zero with|some z=>svs z|none=>[]
  fields:=match d with| .struct fs=>fs.toList.map λf=>(f.offset,nU P f.type,kf P f.type) |_=>[]
  elem:=match d with| .slice e=>e| .array _ e=>e| .map _ e=>e|_=>0
  len:=match d with| .array n _=>n|_=>0
  isSlice:=match d with| .slice _=>true|_=>false
  apK:=match d with| .array _ _=>true|_=>false
  tag:=yl P t i
  int:=match d with| .int k=>some k|_=>none
  iface:=match d with| .interface _=>true|_=>false
  eq:=Tv P t d
  mkt:=match d with| .map k _=>K7 P k|_=>none
  mvt:=match d with| .map _ e=>K6 P e|_=>none
  sc:=cw (some d)}
def zq (P:Program)(d:TypeDesc):Bool:=match d with| .struct fs=>fs.toList.all λf=>(P.info? f.type).isSome&&(P.underlying f.type).isSome|_=>true
def ca (P:Program)(t:TypeId):Option TI:=
 match P.info? t,P.underlying t with
 |some i,some d=>bif i.zero.isSome&&zq P d then some (dL P t i d)else none|_,_=>none
abbrev Tis:=TypeId->Option TI
def Tis.ok (ts:Tis)(P:Program):Prop:= ∀ t i,ts t=some i->ca P t=some i
inductive Ob where
 |cells (l:List SV)
 |dead
 |row (k:Tag) (l:List k.T)
 |mp (kk vk:Tag) (l:List (kk.T×vk.T)) (apJ:Option (Nat×Option kk.T))
 |apg (k:Tag) (l:List (List k.T))
 |ab (r:Res)
 |raw (o:Obj)
 |mi (mid:Option Nat) (n:Nat) (left:List Nat) (cur:Option Nat)
 |fwd (n:Option Nat)
 |fz (k:Tag) (l:List k.T)
instance:Inhabited Ob:=⟨.dead⟩
structure St where
 t:List (Nat×SV)
 h:List Ob
 deriving Inhabited
def lk (t:Nat):List (Nat×SV)->SV
 | [] =>.any|(a,s)::r=>bif Nat.beq a t then s else lk t r
def St.put (st:St)(d:Option Nat)(s:SV):St:=match d with|some d=>⟨(d,s)::st.t,st.h⟩ |none=>st
def aq:List Ob->Nat->Ob
 | [],_=>.dead|o::_,0=>o|_::r,n+1=>aq r n
def cF:List Ob->Nat->Ob->List Ob
 | [],0,x=>[x]| [],n+1,x=>.dead::cF [] n x|_::r,0,x=>x::r|o::r,n+1,x=>o::cF r n x
abbrev Up:=Nat×Ob
def noE {κ:Type}:Option (Nat×Option κ)->Bool
 |some (_,some _) =>false|_=>true
def bf (h:List Ob):List Up->List Ob
 | [] =>h|(id,o)::r=>bf (cF h id o) r
inductive Con where
 |det (pre:Prop) (s:SV)
 |rel (α:Type) (pre:Prop) (post:α->Prop) (out:α->SV)
 |may (ok:Bool) (s:SV) (x:Value)
inductive Rs where
 |ret (s:SV) (h:List Ob)
 |pan (x:Value) (h:List Ob)
structure ao3 where
 α:Type
 pre:Prop
 post:α->Prop
 res:α->Rs
structure ap_ where
 α:Type
 pre:Prop
 post:α->Prop
 res:α->Bool×Res
structure Cons where
 p:FuncId->List SV->Option Con
 o:FuncId->List SV->List Ob->Option ao3
 y:List SV->Res->Option ap_
def pf:SV->Option (List SV)
 | .agg l=>some l| .v (.agg cs) =>some (cs.toList.map .v)| .v (.tuple _) =>none| .any=>none| .tup _=>none| .gd .. =>none| .nw .. =>none| .nm .. =>none| .ng .. =>none|s=>some [s]
def nth {α:Type}:List α->Nat->Option α
 | [],_=>none|x::_,0=>some x|_::r,n+1=>nth r n
def cut:Nat->List SV->List SV
 |0,_=>[]|_+1,[] =>[]|n+1,x::r=>x::cut n r
def K8:Nat->List SV->List SV
 |0,l=>l|_+1,[] =>[]|n+1,_::r=>K8 n r
def sz:List SV->Nat
 | [] =>0|_::r=>sz r+1
def qZ (agg:Bool)(size:Nat)(cells:List SV)(off:Nat):Option SV:=
 bif agg then(bif Nat.ble (off+size) (sz cells)then some (.agg (cut size (K8 off cells)))else none)
 else nth cells off
def DG:List SV->Nat->SV->List SV
 | [],_,_=>[]|_::r,0,s=>s::r|x::r,n+1,s=>x::DG r n s
def gS (cells:List SV)(off:Nat):List SV->List SV
 | [] =>cells|x::xs=>gS (DG cells off x) (off+1) xs
section
variable {κ υ:Type}
def iC [DecidableEq κ]:List (κ×υ)->κ->Option υ
 | [],_=>none|(a,b)::r,x=>if x=a then some b else iC r x
def tg [DecidableEq κ]:List (κ×υ)->κ->υ->List (κ×υ)
 | [],x,y=>[(x,y)]|(a,b)::r,x,y=>if x=a then(x,y)::r else(a,b)::tg r x y
def Nw [DecidableEq κ]:List (κ×υ)->κ->Nat
 | [],_=>0|(a,_)::r,x=>if x=a then 0 else Nw r x+1
end
def ax (kk vk:Tag)(l:List (kk.T×vk.T))(x:kk.T):vk.T:=(iC l x).getD (eC vk)
def wq (kk vk:Tag)(l:List (kk.T×vk.T))(x:kk.T):Bool:=(iC l x).isSome
def dD (kk vk:Tag)(l:List (kk.T×vk.T))(x:kk.T)(y:vk.T):List (kk.T×vk.T):=tg l x y
def AP {κ υ:Type}[DecidableEq κ]:List (κ×υ)->κ->List (κ×υ)
 | [],_=>[]|(a,b)::r,x=>if x=a then r else(a,b)::AP r x
def sj (kk vk:Tag)(l:List (kk.T×vk.T))(x:kk.T):List (kk.T×vk.T):=AP l x
def ud (kk vk:Tag)(l:List (kk.T×vk.T))(x:kk.T):Nat:=Nw l x
def af2 (kk vk:Tag)(l:List (kk.T×vk.T))(x:kk.T):Option kk.T:=if(iC l x).isSome then none else some x
def svT (k:Tag)(x:k.T):SV:=bif oi k then .agg (cellsOf k x)else(nth (cellsOf k x) 0).getD .any
def B_ (k:Tag):Option (List SV)->Option k.T
 |some l=>oj k l|none=>none
def zr:SV->Option (List SV)
 | .agg l=>some l| .v (.agg cs) =>some (cs.toList.map .v)|_=>none
def AQ:SV->Option (List SV)
 | .agg _=>none| .v (.agg _) =>none|s=>pf s
def unT (k:Tag)(s:SV):Option k.T:=bif oi k then B_ k (zr s)else B_ k (AQ s)
inductive OR where
 |val (s:SV)
 |chk (c:Prop) (s:SV)
 |asm (c:Prop) (s:SV)
 |apI (s:SV)
 |eff (c a:Prop) (ups:List Up) (s:SV)
 |call (f:FuncId) (args:List SV)
 |yld (id:Nat) (args:List SV)
 |nxt (id:Nat)
 |amb (p:Bool->Prop)
 |pan (x:Value)
 |bad
structure Cx where
 ts:Tis
 ops:List Oper
 g:Option (Nat×Bool)
 st:St
 nx:Nat
def rE (ops:List Oper):Nat->Option (Nat×Bool)->Nat->Bool->Bool
 |0,_,_,_=>false|_+1,none,_,_=>false|n+1,some (j,b),j',b'=>bif Nat.beq j j'&&CE b b' then true else rE ops n ((nth ops j).bind (·.guard)) j' b'
def bF (ops:List Oper)(g:Option (Nat×Bool)):SV->SV
 | .gd j b s=>bif rE ops ops.length g j b then s else .any| .any=>.any| .v x=>.v x| .ptr a b=>.ptr a b| .os a=>.os a| .e0=>.e0| .rc a b=>.rc a b| .rp a b c d=>.rp a b c d| .gr a b=>.gr a b| .gp a b c d e=>.gp a b c d e| .ep a b=>.ep a b| .rs k l=>.rs k l| .ls s l=>.ls s l| .rm k k2 l=>.rm k k2 l| .agg l=>.agg l| .tup l=>.tup l| .fn f l m=>.fn f l m| .nw k l=>.nw k l| .nm k k2 l=>.nm k k2 l| .ng k l=>.ng k l| .vw a b c d=>.vw a b c d
def raw (t:List (Nat×SV)):Operand->SV
 | .tmp n=>lk n t| .const x=>.v x| .func f=>.fn f [] []| .global _=>.any
def val (cx:Cx)(x:Operand):SV:=bF cx.ops cx.g (raw cx.st.t x)
def dx (cx:Cx):List Operand->List SV
 | [] =>[]|x::r=>val cx x::dx cx r
def ol (cx:Cx):Option Operand->Option SV
 |some x=>some (val cx x)|none=>none
def iK (cx:Cx):List (Nat×Operand)->List (Nat×SV)
 | [] =>[]|(i,x)::r=>(i,val cx x)::iK cx r
def isTrue:Operand->Bool
 | .const (.bool true) =>true|_=>false
def isFalse:Operand->Bool
 | .const (.bool false) =>true|_=>false
def K9 (ops:List Oper)(j:Nat)(c:Operand):Bool:=
 match (nth ops j).bind (·.dst),c with
 |some d,.tmp t=>Nat.beq d t|_,_=>false
def kA (ops:List Oper)(g:Option (Nat×Bool))(c:Operand)(want:Bool):SV->SV
 | .gd j b s=>bif CE b want&&K9 ops j c then s else bF ops g (.gd j b s)|s=>bF ops g s
def DH (a b:Operand):SV->SV->SV->OR
 | .v (.bool x),.v (.bool y),.v (.bool z) =>bif isTrue a then .val (.b (x||z))else bif isFalse b then .val (.b (x&&y))else .bad| .v (.bool x),.any,.v (.bool z) =>.chk (x=false) (.b z)| .v (.bool x),.v (.bool y),.any=>.chk (x=true) (.b y)|_,_,_=>.bad
def mr (k:IntKind)(a b:Int):Int:=a.fdiv (2 ^ min b.toNat k.bits)
def af3 (k:IntKind)(a b:Int):Int:=k.wrap (a*2 ^ min b.toNat k.bits)
def af4 (k:IntKind)(a b:Int):Int:=k.wrap ((BitVec.ofInt k.bits a&&&BitVec.ofInt k.bits b).toNat:Int)
def orI (k:IntKind)(a b:Int):Int:=k.wrap ((BitVec.ofInt k.bits a|||BitVec.ofInt k.bits b).toNat:Int)
def af5 (k:IntKind)(a b:Int):Int:=k.wrap ((BitVec.ofInt k.bits a ^^^ BitVec.ofInt k.bits b).toNat:Int)
def Pu (k:IntKind)(a b:Int):Int:=k.wrap ((BitVec.ofInt k.bits a&&& ~~~(BitVec.ofInt k.bits b)).toNat:Int)
def ue (op:BinOp)(k:IntKind)(a b:Int):OR:=
 match op with
 | .add=>.val (.v (.int k (k.wrap (a+b))))| .sub=>.val (.v (.int k (k.wrap (a - b))))| .mul=>.val (.v (.int k (k.wrap (a*b))))| .quo=>.chk (b≠0) (.v (.int k (k.wrap (a.tdiv b))))| .rem=>.chk (b≠0) (.v (.int k (a.tmod b)))| .shr=>.chk (0<=b) (.v (.int k (mr k a b)))| .shl=>.chk (0<=b) (.v (.int k (af3 k a b)))| .and=>.val (.v (.int k (af4 k a b)))| .or=>.val (.v (.int k (orI k a b)))| .xor=>.val (.v (.int k (af5 k a b)))| .andNot=>.val (.v (.int k (Pu k a b)))| .eql=>.val (.v (.bool (a==b)))| .neq=>.val (.v (.bool (a !=b)))| .lss=>.val (.v (.bool (decide (a<b))))| .leq=>.val (.v (.bool (decide (a<=b))))| .gtr=>.val (.v (.bool (decide (a > b))))| .geq=>.val (.v (.bool (decide (a>=b))))
def Pv (op:BinOp)(a b:ByteArray):OR:=
 match op with
 | .eql=>.val (.v (.bool (a==b)))| .neq=>.val (.v (.bool (a !=b)))|_=>.bad
def I1 (op:BinOp)(a b:Bool):OR:=
 match op with
 | .eql=>.val (.v (.bool (a==b)))| .neq=>.val (.v (.bool (a !=b)))|_=>.bad
def eqV (c:Nat):SV->SV->Option Bool
 | .v (.int k a),.v (.int k' b) =>bif Nat.beq c 1&&Nat.beq (kN k) (kN k')then some (a==b)else none| .v (.string a),.v (.string b) =>bif Nat.beq c 2 then some (a==b)else none| .v (.bool a),.v (.bool b) =>bif Nat.beq c 3 then some (a==b)else none|_,_=>none
def yJ:Option Bool->Option Bool->Option Bool
 |some a,some b=>some (a&&b)|_,_=>none
def eqL:List Nat->List SV->List SV->Option Bool
 | [],[],[] =>some true|c::cs,x::r,y::s=>yJ (eqV c x y) (eqL cs r s)|_,_,_=>none
def eqO (op:BinOp):Option Bool->OR
 |some b=>match op with| .eql=>.val (.v (.bool b)) | .neq=>.val (.v (.bool !b)) |_=>.bad
 |none=>.bad
def abr (op:BinOp)(l m:List SV):List Nat->OR
 | [] =>.bad|c::cs=>eqO op (eqL (c::cs) l m)
def aI (ts:Tis)(t:TypeId)(k:TI->OR):OR:=match ts t with|some i=>k i|none=>.bad
def eqT (op:BinOp)(l m:List SV)(ti:TI):OR:=abr op l m ti.eq
def Ca (op:BinOp)(k k':IntKind):Bool:=
 match op with
 | .shl=>true| .shr=>true|_=>Nat.beq (kN k) (kN k')
def abt (op:BinOp):SV->SV->OR
 | .v (.int k a),.v (.int k' b) =>bif Ca op k k' then ue op k a b else .bad|_,_=>.bad
def XJ (op:BinOp)(p:Prop):OR:=
 match op with
 | .eql=>.amb λb=>b=true->p
 | .neq=>.amb λb=>b=false->p
 |_=>.bad
def eqS (op:BinOp)(ti:TI):SV->SV->OR
 | .rs _ l,.v (.slice none 0 0) =>bif ti.isSlice then XJ op (l=[])else .bad| .v (.string a),.v (.string b) =>bif Nat.beq ti.sc 2 then Pv op a b else .bad| .v (.bool a),.v (.bool b) =>bif Nat.beq ti.sc 3 then I1 op a b else .bad| .agg l,.agg m=>eqT op l m ti|_,_=>.bad
def I2 (ts:Tis)(op:BinOp)(t:TypeId):SV->SV->OR
 | .v (.int k a),.v (.int k' b) =>abt op (.v (.int k a)) (.v (.int k' b))
 |a,b=>aI ts t λti=>eqS op ti a b
def unS:UnOp->SV->OR
 | .not,.v (.bool b) =>.val (.v (.bool !b))| .neg,.v (.int k n) =>.val (.v (.int k (k.wrap (0 - n))))|_,_=>.bad
def uf:Option SV->OR
 |some s=>.val s|none=>.bad
def DI (agg:Bool)(size szt:Nat)(id:Nat)(i:Int)(off:Nat):Ob->OR
 | .row k l=>bif Nat.beq szt (aa k)then uf (qZ agg size (cellsOf k (l.getD i.toNat (eC k))) off)else .bad| .apg _ _=>bif Nat.beq szt 1&&Nat.beq off 0&& !agg then .val (.gr id i)else .bad|_=>.bad
def AR (agg:Bool)(size szt:Nat)(i j:Int)(off:Nat):Ob->OR
 | .apg k l=>bif Nat.beq szt (aa k)then uf (qZ agg size (cellsOf k ((l.getD i.toNat []).getD j.toNat (eC k))) off)else .bad|_=>.bad
def zt (agg:Bool)(size off:Nat):Ob->OR
 | .cells l=>uf (qZ agg size l off)|_=>.bad
def qy (ti:TI)(h:List Ob):SV->OR
 | .ptr id off=>zt ti.agg ti.size off (aq h id)| .ep l off=>uf (qZ ti.agg ti.size l off)| .rp s id i off=>DI ti.agg ti.size s id i off (aq h id)| .gp s id i j off=>AR ti.agg ti.size s i j off (aq h id)|_=>.bad
def AS (n:Nat):SV->OR
 | .ptr id off=>.val (.ptr id (off+n))| .ep l off=>.val (.ep l (off+n))| .rp s id i off=>.val (.rp s id i (off+n))| .gp s id i j off=>.val (.gp s id i j (off+n))|_=>.bad
def I3 (esz id:Nat)(i:Int):Ob->OR
 | .row k l=>bif Nat.beq esz (aa k)then .chk (0<=i/\i< (l.length:Int)) (.rp esz id i 0)else .bad| .apg _ l=>bif Nat.beq esz 1 then .chk (0<=i/\i< (l.length:Int)) (.rp 1 id i 0)else .bad|_=>.bad
def Nx (esz id:Nat)(i j:Int):Ob->OR
 | .apg k l=>bif Nat.beq esz (aa k)then .chk (0<=j/\j< ((l.getD i.toNat []).length:Int)) (.gp esz id i j 0)else .bad|_=>.bad
def Ny (i:Int)(s:Nat)(l:List SV):OR:=bif Nat.ble 1 s&&Nat.ble (i.toNat*s+s) (sz l)then .chk (0<=i) (.ep l (i.toNat*s))else .bad
def iv (ti:TI)(esz:Nat)(h:List Ob):SV->SV->OR
 | .rs k l,.v (.int _ i) =>bif ti.isSlice&&Nat.beq esz (aa k)then .chk (0<=i/\i< (l.length:Int)) (.ep (cellsOf k (l.getD i.toNat (eC k))) 0)else .bad| .os id,.v (.int _ i) =>bif ti.isSlice then I3 esz id i (aq h id)else .bad| .gr id i,.v (.int _ j) =>bif ti.isSlice then Nx esz id i j (aq h id)else .bad| .ls s l,.v (.int _ i) =>bif ti.isSlice&&Nat.beq esz s then Ny i s l else .bad| .ptr id off,.v (.int _ i) =>bif ti.apK then .chk (0<=i/\i< (ti.len:Int)) (.ptr id (off+i.toNat*esz))else .bad| .ep l off,.v (.int _ i) =>bif ti.apK then .chk (0<=i/\i< (ti.len:Int)) (.ep l (off+i.toNat*esz))else .bad| .rp s id i off,.v (.int _ j) =>bif ti.apK then .chk (0<=j/\j< (ti.len:Int)) (.rp s id i (off+j.toNat*esz))else .bad|_,_=>.bad
def lI (place:Nat->Option (Nat×Nat))(cells:List SV):List (Nat×SV)->Option (List SV)
 | [] =>some cells
 |(i,v)::rest=>
  match place i,pf v with
  |some (off,size),some vs=>bif Nat.beq (sz vs) size&&Nat.ble (off+size) (sz cells)then lI place (gS cells off vs) rest else none|_,_=>none
def rA (k:Tag)(size:Nat):Nat->List SV->Option (List k.T)
 |0,_=>some []
 |n+1,cells=>match oj k (cut size cells),rA k size n (K8 size cells)with
  |some x,some xs=>some (x::xs)|_,_=>none
def CF (n:Nat)(z:List SV):List SV:=match n with|0=>[] |n+1=>z++CF n z
def sn (f:Option (Nat×Nat×Bool))(l:Option (List SV)):OR:=
 match f,l with
 |some (o,n,g),some l=>uf (qZ g n l o)|_,_=>.bad
def Nz:SV->Bool
 | .v (.agg _) =>false| .v (.tuple _) =>false| .any=>false| .agg _=>false| .tup _=>false| .gd .. =>false| .nw .. =>false| .nm .. =>false| .ng .. =>false|_=>true
def uT:List SV->Bool
 | [] =>true|x::r=>Nz x&&uT r
def NA (k:Tag)(id:Nat)(i:Int)(l:List k.T):Option k.T->OR
 |some x=>.eff True True [(id,.row k (l.set i.toNat x))] .any|none=>.bad
def I4 (k:Tag)(id:Nat)(i j:Int)(l:List (List k.T)):Option k.T->OR
 |some x=>.eff True True [(id,.apg k (l.set i.toNat ((l.getD i.toNat []).set j.toNat x)))] .any|none=>.bad
def NB (id off:Nat)(vs:List SV):Ob->OR
 | .cells l=>bif Nat.ble (off+sz vs) (sz l)&&uT vs then .eff True True [(id,.cells (gS l off vs))] .any else .bad|_=>.bad
def NC (s id:Nat)(i:Int)(off:Nat)(vs:List SV):Ob->OR
 | .row k l=>bif Nat.beq s (aa k)&&Nat.ble (off+sz vs) s then NA k id i l (oj k (gS (cellsOf k (l.getD i.toNat (eC k))) off vs))else .bad|_=>.bad
def ND (s id:Nat)(i j:Int)(off:Nat)(vs:List SV):Ob->OR
 | .apg k l=>bif Nat.beq s (aa k)&&Nat.ble (off+sz vs) s then I4 k id i j l (oj k (gS (cellsOf k ((l.getD i.toNat []).getD j.toNat (eC k))) off vs))else .bad|_=>.bad
def q_ (size:Nat)(h:List Ob):SV->Option (List SV)->OR
 | .ptr id off,some vs=>bif Nat.beq (sz vs) size then NB id off vs (aq h id)else .bad| .rp s id i off,some vs=>bif Nat.beq (sz vs) size then NC s id i off vs (aq h id)else .bad| .gp s id i j off,some vs=>bif Nat.beq (sz vs) size then ND s id i j off vs (aq h id)else .bad|_,_=>.bad
def I5:Ob->Bool
 | .apg _ _=>true|_=>false
def Tw (k:Tag)(nx id rid:Nat)(i:Int)(l:List (List k.T)):Option (List k.T)->OR
 |some m=>.eff True True [(id,.dead),(rid,.dead),(nx,.apg k (l.set i.toNat m)),(id,.fwd (some nx))] .any|none=>.bad
def NE (k:Tag):Ob->Option (List k.T)
 | .row k' l=>if h:k'=k then some (h▸l)else none|_=>none
def DJ (nx:Nat)(h:List Ob)(id rid:Nat)(i:Int):Ob->OR
 | .apg k l=>Tw k nx id rid i l (NE k (aq h rid))|_=>.bad
def ra (size nx:Nat)(h:List Ob):SV->SV->OR
 | .rp s id i off,.os rid=>bif I5 (aq h id)then(bif Nat.beq size 1&&Nat.beq s 1&&Nat.beq off 0&& !(Nat.beq id rid)then DJ nx h id rid i (aq h id)else .bad)else q_ size h (.rp s id i off) (pf (.os rid))|a,x=>q_ size h a (pf x)
def Tx:SV->OR
 | .ptr id off=>.val (.ptr id off)| .ep l off=>.val (.ep l off)| .rp a b c d=>.val (.rp a b c d)| .gp a b c d e=>.val (.gp a b c d e)
 | .fn f first caps=>.val (.fn f first caps)
 |_=>.bad
def K_:Option IntKind->SV->OR
 |some k,.v (.int _ n) =>.val (.v (.int k (k.wrap n)))|_,_=>.bad
def I6 (nx:Nat):Option (List SV)->OR
 |some l=>.eff True True [(nx,.cells l)] (.ptr nx 0)|none=>.bad
def NF:Option (List SV)->OR
 |some l=>.val (.agg l)|none=>.bad
def Tz (k:Tag):Option (List k.T)->OR
 |some xs=>.apI (.rs k xs)|none=>.bad
def lsS (n s:Nat)(l:List SV):OR:=bif Nat.beq (sz l) (n*s)&&uT l then .apI (.ls s l)else .bad
def bsT (k:Tag)(ti te:TI)(n:Nat):Option (List SV)->OR
 |some l=>bif Nat.beq te.size (aa k)&&ti.isSlice&&Nat.ble (n*te.size) 16777216&&Nat.beq (sz te.zero) te.size then Tz k (rA k te.size n l)else .bad|none=>.bad
def bsU (ti te:TI)(n:Nat):Option (List SV)->OR
 |some l=>bif ti.isSlice&&Nat.ble 1 te.size&&Nat.ble (n*te.size) 16777216&&Nat.beq (sz te.zero) te.size then lsS n te.size l else .bad|none=>.bad
def noG:Option (Nat×Bool)->Bool
 |none=>true|some _=>false
def af6:Op->Bool
 | .call ⟨.value _,_,_⟩ =>true|_=>false
def af7:Op->Bool
 | .call ⟨.builtin .append,_,_⟩ =>true|_=>false
def TA:List Oper->Bool
 | [] =>false
 |o::r=>af6 o.op||TA r
def Pw:List Oper->Bool
 | [] =>false
 |o::r=>af7 o.op||Pw r
def af8:Op->Bool
 | .call ⟨.builtin .clear,_,_⟩ =>true|_=>false
def TB:List Oper->Bool
 | [] =>false
 |o::r=>af8 o.op||TB r
def abu:Op->Bool
 | .slice .. =>true|_=>false
def NG:List Oper->Bool
 | [] =>false| [o] =>abu o.op|_::r=>NG r
def Px:List Oper->List Nat
 | [] =>[]|o::r=>bif abu o.op then o.dst.toList++Px r else Px r
def La (ds:List Nat):List Operand->Bool
 | [] =>false
 | .tmp d::r=>ds.any (Nat.beq d) ||La ds r
 |_::r=>La ds r
def TC:Op->List Operand
 | .call ⟨.value _,args,_⟩ =>args.toList|_=>[]
def abv (ds:List Nat):List Oper->Bool
 | [] =>false
 |o::r=>La ds (TC o.op) ||abv ds r
def Lb (ops:List Oper):Bool:=Pw ops||TB ops||NG ops||abv (Px ops) ops
def af9 (ops:List Oper)(g:Option (Nat×Bool)):Option (Nat×Bool):=bif Pw ops&&TA ops then some (0,true)else g
def abw:List (Nat×Operand)->List Operand
 | [] =>[]|(_,x)::r=>x::abw r
def TD:Op->List Operand
 | .build _ parts=>abw parts.toList|_=>[]
def abx (ds:List Nat):List Oper->Bool
 | [] =>false
 |o::r=>La ds (TD o.op) ||abx ds r
def af_ (t:TypeId):Op->Bool
 | .buildSlice t' _ _=>Nat.beq t t'|_=>false
def Py (t:TypeId):List Oper->List Nat
 | [] =>[]|o::r=>bif af_ t o.op then o.dst.toList++Py t r else Py t r
def aas:Bool:=false
def I7 (t:TypeId)(ops:List Oper)(g:Option (Nat×Bool)):Option (Nat×Bool):=bif aas&&abx (Py t ops) ops then some (0,true)else af9 ops g
def aga:SV->Bool
 | .os _=>true|_=>false
def osL:List SV->Bool
 | [] =>false
 |s::r=>aga s||osL r
def osV:SV->Bool
 | .os _=>true| .agg l=>osL l|_=>false
def XK:List (Nat×SV)->Bool
 | [] =>false
 |(_,s)::r=>osV s||XK r
def bsG (ti te:TI)(n:Nat)(l:Option (List SV))(os:Bool):Option Tag->OR
 |some k=>bif os then bsU ti te n l else bsT k ti te n l|none=>bsU ti te n l
def aat:List Kd->Bool
 | [.f] =>true|_=>false
def aby:Option Tag->Option Tag
 |some k=>bif aat (dN k)then none else some k|none=>none
def bsS (ti te:TI)(n:Nat)(parts:List (Nat×SV)):OR:=
 bif Nat.beq n 0 then(bif ti.isSlice&&parts.isEmpty then .apI .e0 else .bad)
 else bsG ti te n (lI (λi=>some (i*te.size,te.size)) (CF n te.zero) parts) (XK parts) (aby te.tag)
def one {α:Type}:List α->Bool
 | [_] =>true|_=>false
def GI (g:Option (Nat×Bool))(nx:Nat)(te:TI):OR->OR
 | .apI (.rs k l) =>bif(te.agg||one l)&&noG g then .eff True True [(nx,.row k l)] (.os nx)else .apI (.rs k l)|r=>r
def TE (i:Nat):SV->OR
 | .tup l=>uf (nth l i)|_=>.bad
def zu (args:List SV):SV->OR
 | .fn g first caps=>.call g (first++args++caps)
 | .os id=>.yld id args|_=>.bad
def aK:Nat:=140737488355328
def XL:Ob->OR
 | .row _ l=>.asm (l.length<=aK) (.i l.length)| .apg _ l=>.asm (l.length<=aK) (.i l.length)|_=>.bad
def abz (i:Int):Ob->OR
 | .apg _ l=>.asm ((l.getD i.toNat []).length<=aK) (.i (l.getD i.toNat []).length)|_=>.bad
def abA (m:Option Tag):Ob->OR
 | .mp _ _ l p=>bif m.isSome&&noE p then .val (.i l.length)else .bad|_=>.bad
def tU (ti:TI)(h:List Ob):List SV->OR
 | [.rs _ l] =>bif ti.isSlice then .asm (l.length<=aK) (.i l.length)else .bad| [.v (.slice none 0 0)] =>bif ti.isSlice then .val (.i 0)else .bad| [.e0] =>bif ti.isSlice then .val (.i 0)else .bad| [.rc _ l] =>bif ti.isSlice then .asm (l.length<=aK) (.i l.length)else .bad| [.os id] =>bif ti.isSlice then XL (aq h id)else abA ti.mkt (aq h id)| [.gr id i] =>bif ti.isSlice then abz i (aq h id)else .bad| [.ls s l] =>bif ti.isSlice&&Nat.ble 1 s then .val (.i ((sz l / s:Nat):Int))else .bad|_=>.bad
def I8:List SV->OR
 | [.v (.int k a),.v (.int _ b)] =>.val (.v (.int k (if b<a then b else a)))|_=>.bad
def I9:List SV->OR
 | [.v (.int k a),.v (.int _ b)] =>.val (.v (.int k (if a<b then b else a)))|_=>.bad
def TF:SV->OR
 | .v (.iface t y) =>.pan (.iface t y)|_=>.bad
def DK (t:TypeId):SV->OR
 | .v (.int k n) =>.val (.v (.iface t (.int k n)))|_=>.bad
def Lc (fn:Fn)(first caps:List SV):OR:=
 match fn with
 | .func f=>.val (.fn f first caps)
 |_=>.bad
def d9:Nat:=140737488355328
def Pz (a:Tag):Option Tag->Bool
 |some b=>Nat.beq (zm a) (zm b)|none=>false
def zv (k:Tag)(k':Tag)(l:List k'.T):Option (List k.T):=if h:k'=k then some (h▸l)else none
def TG (k:Tag):Ob->Option (List k.T)
 | .row k' l=>zv k k' l|_=>none
def abB (k:Tag)(s:Nat)(lo hi:Int):Ob->Option (List k.T)
 | .row k' l=>bif Nat.beq s (aa k')then zv k k' ((l.take hi.toNat).drop lo.toNat)else none|_=>none
def ug (k:Tag)(h:List Ob):SV->Option (List k.T)
 | .rs k' l=>zv k k' l| .v (.slice none 0 0) =>some []| .e0=>some []| .os id=>TG k (aq h id)| .vw s id lo hi=>abB k s lo hi (aq h id)|_=>none
def TH (k:Tag)(nx bytes:Nat)(kill:List Up)(l:List k.T):Option (List k.T)->OR
 |some m=>.eff ((l++m).length*bytes<=d9) ((l++m).length<=aK) (kill++[(nx,.row k (l++m))]) (.os nx)|none=>.bad
def vZ (te:TI)(nx:Nat)(kill:List Up)(h:List Ob)(src:SV):Ob->OR
 | .row k l=>bif Nat.beq te.size (aa k)&&Nat.beq (sz te.zero) te.size&&Nat.ble 1 te.bytes then TH k nx te.bytes kill l (ug k h src)else .bad|_=>.bad
def DL (k:Tag)(nx bytes id2:Nat)(kill:List Up)(l:List (List k.T)):Option (List k.T)->OR
 |some m=>.eff ((l++[m]).length*bytes<=d9) ((l++[m]).length<=aK) (kill++[(id2,.dead),(nx,.apg k (l++[m]))]) (.os nx)|none=>.bad
def DM (nx bytes:Nat)(h:List Ob)(id2:Nat)(kill:List Up):Ob->OR
 | .apg k l=>DL k nx bytes id2 kill l (TG k (aq h id2))|_=>.bad
def XM (nx bytes id2:Nat):Ob->OR
 | .row k m=>DL k nx bytes id2 [] [] (some m)|_=>.bad
def uU (te:TI)(nx:Nat)(h:List Ob)(src:SV):Option Tag->OR
 |some k=>vZ te nx [] h src (.row k [])|none=>.bad
def XN (te:TI)(id:Nat):Ob->OR
 | .row k l=>bif Nat.beq te.size (aa k)&&Nat.beq (sz te.zero) te.size&&Nat.ble 1 te.bytes then .eff ((l++l).length*te.bytes<=d9) ((l++l).length<=aK) [(id,.fz k l)] (.rs k (l++l))else .bad|_=>.bad
def NH {α:Type}:List α->Bool
 | [] =>false|_=>true
def TJ (k:Tag)(bytes:Nat)(l:List k.T):Option (List k.T)->OR
 |some m=>bif NH m then .eff ((l++m).length*bytes<=d9) ((l++m).length<=aK) [] (.rs k (l++m))else .bad|none=>.bad
def XO (te:TI)(h:List Ob)(src:SV)(k:Tag)(l:List k.T):OR:=bif Nat.beq te.size (aa k)&&Nat.beq (sz te.zero) te.size&&Nat.ble 1 te.bytes then TJ k te.bytes l (ug k h src)else .bad
def mt (te:TI)(nx:Nat)(h:List Ob):List SV->OR
 | [.os id,.ls 1 [.os id2]] =>bif Nat.beq te.size 1&&Nat.beq (sz te.zero) 1&&Nat.ble 1 te.bytes&& !(Nat.beq id id2)then DM nx te.bytes h id2 [(id,.dead)] (aq h id)else .bad| [.v (.slice none 0 0),.ls 1 [.os id2]] =>bif Nat.beq te.size 1&&Nat.beq (sz te.zero) 1&&Nat.ble 1 te.bytes then XM nx te.bytes id2 (aq h id2)else .bad| [.os id,.os id2] =>bif Nat.beq id id2 then XN te id (aq h id)else vZ te nx [(id,.dead)] h (.os id2) (aq h id)| [.os id,src] =>vZ te nx [(id,.dead)] h src (aq h id)| [.v (.slice none 0 0),src] =>uU te nx h src te.tag| [.e0,src] =>uU te nx h src te.tag| [.rc k l,src] =>XO te h src k l|_=>.bad
def wr (k:Tag)(l:List k.T)(lo hi:Int):List k.T:=if hi.toNat<=lo.toNat then l else l.take lo.toNat++List.replicate (hi.toNat - lo.toNat) (eC k)++l.drop hi.toNat
def abC (te:TI)(s id:Nat)(lo hi:Int):Ob->OR
 | .row k l=>bif Nat.beq s (aa k)&&Pz k te.tag then .eff True True [(id,.row k (wr k l lo hi))] .any else .bad|_=>.bad
def yK (ti te:TI)(h:List Ob):List SV->OR
 | [.vw s id lo hi] =>bif ti.isSlice then abC te s id lo hi (aq h id)else .bad|_=>.bad
def mkT (nx:Nat)(n c:Int)(te:TI):Option Tag->OR
 |some k=>.eff (n=c/\0<=n/\n*te.bytes<=d9) (n<=aK) [(nx,.row k (List.replicate n.toNat (eC k)))] (.os nx)|none=>.bad
def mkS (nx:Nat)(te:TI):SV->SV->OR
 | .v (.int .i64 n),.v (.int .i64 c) =>mkT nx n c te te.tag|_,_=>.bad
def XP:List SV->Bool
 | [.v (.slice none 0 0)] =>true|_=>false
def XQ (nx:Nat)(n c:Int)(te:TI):Option Tag->OR
 |some k=>bif Nat.beq te.size 1&&XP te.zero&&Nat.ble 1 te.bytes then .eff (n=c/\0<=n/\n*te.bytes<=d9) (n<=aK) [(nx,.apg k (List.replicate n.toNat []))] (.os nx)else .bad|none=>.bad
def GJ (nx:Nat)(te tr:TI):SV->SV->OR
 | .v (.int .i64 n),.v (.int .i64 c) =>XQ nx n c te tr.tag|_,_=>.bad
def bnd (d:Int):Option SV->Option Int
 |none=>some d|some (.v (.int _ n)) =>some n|_=>none
def XR (k:Tag)(l:List k.T):Option Int->Option Int->OR
 |some lo,some hi=>.chk (0<=lo/\lo<=hi/\hi<=(l.length:Int)) (.rs k ((l.take hi.toNat).drop lo.toNat))|_,_=>.bad
def XS (id nx:Nat)(k:Tag)(l:List k.T):Option Int->Option Int->OR
 |some lo,some hi=>.eff (0<=lo/\lo<=hi/\hi<=(l.length:Int)) True [(id,.dead),(nx,.row k ((l.take hi.toNat).drop lo.toNat))] (.os nx)|_,_=>.bad
def XT (esz id nx:Nat)(lo hi:Option SV):Ob->OR
 | .row k l=>bif Nat.beq esz (aa k)then XS id nx k l (bnd 0 lo) (bnd l.length hi)else .bad|_=>.bad
def TK (esz id n:Nat):Option Int->OR
 |some a=>.chk (0<=a/\a<=(n:Int)) (.vw esz id a n)|none=>.bad
def TL (esz id:Nat)(lo:Option SV):Ob->OR
 | .row k l=>bif Nat.beq esz (aa k)then TK esz id l.length (bnd 0 lo)else .bad|_=>.bad
def mL (ti:TI)(esz nx:Nat)(h:List Ob)(lo hi:Option SV)(vq:Bool):SV->OR
 | .rs k l=>bif ti.isSlice&&Nat.beq esz (aa k)then XR k l (bnd 0 lo) (bnd l.length hi)else .bad| .os id=>bif ti.isSlice then(bif vq then TL esz id lo (aq h id)else XT esz id nx lo hi (aq h id))else .bad|_=>.bad
def aau (ti:TI):Option SV->Option SV->SV->SV->OR
 |none,some (.v (.int .i64 0)),.v (.int .i64 0),.v (.slice none 0 0) =>bif ti.isSlice then .val (.v (.slice none 0 0))else .bad|_,_,_,_=>.bad
def aav (ti:TI)(k:Tag)(l:List k.T):Option SV->Option SV->SV->OR
 |none,some (.v (.int .i64 a)),.v (.int .i64 b) =>bif ti.isSlice then .chk (a=(l.length:Int)/\b=(l.length:Int)) (.rc k l)else .bad|_,_,_=>.bad
def DN (ti:TI)(lo hi:Option SV)(m:SV):SV->OR
 | .rs k l=>aav ti k l lo hi m|x=>aau ti lo hi m x
def HQ (kk vk:Tag)(l:List (kk.T×vk.T))(ok:Bool):Option kk.T->OR
 |some x=>bif ok then .val (.tup [svT vk (ax kk vk l x),.b (wq kk vk l x)])else .val (svT vk (ax kk vk l x))|none=>.bad
def lz (a:Tag):Option Tag->Bool
 |some b=>Nat.beq (zm a) (zm b)|none=>false
def HR {α:Type}:Option α->Bool
 |none=>true|some _=>false
def PA (ti:TI)(key:SV)(ok:Bool):Ob->OR
 | .mp kk vk l apJ=>bif lz kk ti.mkt&&lz vk ti.mvt&&(!ok||noE apJ)then HQ kk vk l ok (unT kk key)else .bad|_=>.bad
def TM (key:SV)(ok:Bool):Option Tag->Option Tag->OR
 |some kk,some vk=>HQ kk vk [] ok (unT kk key)|_,_=>.bad
def tx (ti:TI)(h:List Ob)(ok:Bool)(key:SV):SV->OR
 | .os id=>PA ti key ok (aq h id)| .rm kk vk l=>bif lz kk ti.mkt&&lz vk ti.mvt then HQ kk vk l ok (unT kk key)else .bad| .v (.map none) =>TM key ok ti.mkt ti.mvt|_=>.bad
def abD (id:Nat)(kk vk:Tag)(l:List (kk.T×vk.T)):Option kk.T->Option vk.T->OR
 |some x,some y=>.eff True True [(id,.mp kk vk (dD kk vk l x y) none)] .any|_,_=>.bad
def abE (ti:TI)(id:Nat)(key v:SV):Ob->OR
 | .mp kk vk l p=>bif lz kk ti.mkt&&lz vk ti.mvt&&noE p then abD id kk vk l (unT kk key) (unT vk v)else .bad|_=>.bad
def CG (ti:TI)(h:List Ob)(key v:SV):SV->OR
 | .os id=>abE ti id key v (aq h id)|_=>.bad
def RE (id nx:Nat)(kk vk:Tag)(l:List (kk.T×vk.T)):Option kk.T->OR
 |some x=>.eff True True [(nx,.fwd none),(id,.mp kk vk l (some (nx,some x)))] (.tup [svT vk (ax kk vk l x),.os nx])|none=>.bad
def RG (ti:TI)(id nx:Nat)(key:SV):Ob->OR
 | .mp kk vk l p=>bif lz kk ti.mkt&&lz vk ti.mvt&&noE p then RE id nx kk vk l (unT kk key)else .bad|_=>.bad
def xS (ti:TI)(nx:Nat)(h:List Ob)(key:SV):SV->OR
 | .os id=>RG ti id nx key (aq h id)|_=>.bad
def abF (id:Nat)(kk vk:Tag)(l:List (kk.T×vk.T))(x:kk.T):Option vk.T->OR
 |some y=>.eff True True [(id,.mp kk vk (dD kk vk l x y) none)] .any|none=>.bad
def abG (ti:TI)(id n:Nat)(v:SV):Ob->OR
 | .mp kk vk l (some (n',some x)) =>bif lz kk ti.mkt&&lz vk ti.mvt&&Nat.beq n' n then abF id kk vk l x (unT vk v)else .bad|_=>.bad
def I_ (ti:TI)(h:List Ob)(v:SV):SV->SV->OR
 | .os id,.os n=>abG ti id n v (aq h id)|_,_=>.bad
def abH (id:Nat)(kk vk:Tag)(l:List (kk.T×vk.T)):Option kk.T->OR
 |some x=>.eff True True [(id,.mp kk vk (sj kk vk l x) none)] .any|none=>.bad
def abI (ti:TI)(id:Nat)(key:SV):Ob->OR
 | .mp kk vk l p=>bif lz kk ti.mkt&&lz vk ti.mvt&&noE p then abH id kk vk l (unT kk key)else .bad|_=>.bad
def yL (ti:TI)(h:List Ob):List SV->OR
 | [.os id,key] =>abI ti id key (aq h id)|_=>.bad
def mmR (nx:Nat):Option Tag->Option Tag->OR
 |some kk,some vk=>.eff True True [(nx,.mp kk vk [] none)] (.os nx)|_,_=>.bad
def zsO (z:List SV):OR:=.val (.tup [.agg z,.b false])
def taS (t:TypeId)(ok:Bool)(ti:TI):SV->OR
 | .v (.iface t' y) =>bif ti.iface then .bad else bif Nat.beq t' t then(bif ok then .val (.tup [.v y,.b true])else .val (.v y))else .bad|_=>.bad
def XU (ti:TI)(nx id:Nat):Ob->OR
 | .mp kk vk l p=>bif lz kk ti.mkt&&lz vk ti.mvt&&noE p then .eff True True [(nx,.mi (some id) l.length (List.range l.length) none),(id,.mp kk vk l (some (nx,none)))] (.ptr nx 0)else .bad|_=>.bad
def DO (ti:TI)(nx:Nat)(h:List Ob):SV->OR
 | .os id=>XU ti nx id (aq h id)|_=>.bad
def TN:SV->OR
 | .ptr id 0=>.nxt id|_=>.bad
def TO (id n j:Nat):Ob->OR
 | .mp kk vk l (some (it,none)) =>bif Nat.beq it id then .chk (n=l.length/\j<n) (.tup [svT kk (l.getD j (eC kk,eC vk)).1,svT vk (l.getD j (eC kk,eC vk)).2])else .bad|_=>.bad
def PB (h:List Ob)(id:Nat):Ob->OR
 | .mi (some mid) n _ (some j) =>TO id n j (aq h mid)|_=>.bad
def Cb (h:List Ob):SV->OR
 | .ptr id 0=>PB h id (aq h id)|_=>.bad
def opS (cx:Cx):Op->OR
 | .move x=>.val (val cx x)| .assign x=>.val (val cx x)| .pick c a b=>DH a b (val cx c) (kA cx.ops cx.g c true (raw cx.st.t a)) (kA cx.ops cx.g c false (raw cx.st.t b))
 | .alloc t=>aI cx.ts t λti=>I6 cx.nx (some ti.zero)
 | .box _ x=>I6 cx.nx (pf (val cx x))
 | .build t parts=>aI cx.ts t λti=>
  bif ti.apK then aI cx.ts ti.elem λte=>NF (lI (λi=>some (i*te.size,te.size)) ti.zero (iK cx parts.toList))
  else bif ti.agg then NF (lI (λi=>(nth ti.fields i).map λf=>(f.1,f.2.1)) ti.zero (iK cx parts.toList))
  else .bad
 | .buildSlice t n parts=>aI cx.ts t λti=>aI cx.ts ti.elem λte=>GI (I7 t cx.ops cx.g) cx.nx te (bsS ti te n (iK cx parts.toList))
 | .load t a=>aI cx.ts t λti=>qy ti cx.st.h (val cx a)
 | .store t a x=>aI cx.ts t λti=>ra ti.size cx.nx cx.st.h (val cx a) (val cx x)
 | .nilCheck x=>Tx (val cx x)| .binOp op t x y _=>I2 cx.ts op t (val cx x) (val cx y)| .unOp op _ x=>unS op (val cx x)
 | .convert src dst x=>aI cx.ts src λ_=>aI cx.ts dst λti=>K_ ti.int (val cx x)
 | .makeFunc fn first captured=>Lc fn (dx cx first.toList) (dx cx captured.toList)
 | .fieldAddr t x f=>aI cx.ts t λti=>match nth ti.fields f with|some (o,n,_) =>bif Nat.ble 1 n then AS o (val cx x)else .bad|none=>.bad
 | .field t x f=>aI cx.ts t λti=>sn (nth ti.fields f) (zr (val cx x))
 | .indexAddr t x i=>aI cx.ts t λti=>aI cx.ts ti.elem λte=>iv ti te.size cx.st.h (val cx x) (val cx i)
 | .extract x i=>TE i (val cx x)| .panic x=>TF (val cx x)
 | .makeInterface t x=>aI cx.ts t λti=>bif ti.iface then .bad else DK t (val cx x)
 | .makeSlice t n c=>aI cx.ts t λti=>aI cx.ts ti.elem λte=>bif ti.isSlice then(bif te.isSlice then aI cx.ts te.elem λtr=>GJ cx.nx te tr (val cx n) (val cx c)else mkS cx.nx te (val cx n) (val cx c))else .bad
 | .slice t x lo hi none=>aI cx.ts t λti=>aI cx.ts ti.elem λte=>mL ti te.size cx.nx cx.st.h (ol cx lo) (ol cx hi) (HR hi&&Lb cx.ops) (val cx x)
 | .slice t x lo hi (some m) =>aI cx.ts t λti=>aI cx.ts ti.elem λ_=>DN ti (ol cx lo) (ol cx hi) (val cx m) (val cx x)
 | .makeMap t none=>aI cx.ts t λti=>mmR cx.nx ti.mkt ti.mvt
 | .lookup t m k ok=>aI cx.ts t λti=>tx ti cx.st.h ok (val cx k) (val cx m)
 | .mapUpdate t m k v=>aI cx.ts t λti=>CG ti cx.st.h (val cx k) (val cx v) (val cx m)
 | .insert t m k v=>aI cx.ts t λti=>CG ti cx.st.h (val cx k) (val cx v) (val cx m)
 | .mapEntry t m k=>aI cx.ts t λti=>xS ti cx.nx cx.st.h (val cx k) (val cx m)
 | .entryStore t m s v=>aI cx.ts t λti=>I_ ti cx.st.h (val cx v) (val cx m) (val cx s)
 | .range t m=>aI cx.ts t λti=>DO ti cx.nx cx.st.h (val cx m)
 | .next it false=>TN (val cx it)| .entry it=>Cb cx.st.h (val cx it)
 | .typeAssert x _ t ok=>aI cx.ts t λti=>taS t ok ti (val cx x)
 | .call ⟨.value f,args,_⟩ =>zu (dx cx args.toList) (val cx f)
 | .call ⟨.builtin .len,args,tys⟩ =>match tys.toList with| [t] =>aI cx.ts t λti=>tU ti cx.st.h (dx cx args.toList) |_=>.bad
 | .call ⟨.builtin .delete,args,tys⟩ =>match tys.toList with|t::_=>aI cx.ts t λti=>yL ti cx.st.h (dx cx args.toList) |_=>.bad
 | .call ⟨.builtin .clear,args,tys⟩ =>match tys.toList with| [t] =>aI cx.ts t λti=>aI cx.ts ti.elem λte=>yK ti te cx.st.h (dx cx args.toList) |_=>.bad
 | .call ⟨.builtin .min,args,_⟩ =>I8 (dx cx args.toList)| .call ⟨.builtin .max,args,_⟩ =>I9 (dx cx args.toList)
 | .call ⟨.builtin .append,args,tys⟩ =>match tys.toList with| [t,t2] =>aI cx.ts t λti=>aI cx.ts t2 λti2=>aI cx.ts ti.elem λte=>bif ti.isSlice&&ti2.isSlice then mt te cx.nx cx.st.h (dx cx args.toList)else .bad|_=>.bad
 |_=>.bad
structure Fp where
 all:List Nat
 rd:List Nat
 wk:List Nat
 tc:List Nat
 wt:List Nat
def fX:SV->List Nat
 | .ptr id _=>[id]| .os id=>[id]| .rp _ id _ _=>[id]| .gr id _=>[id]| .gp _ id _ _ _=>[id]| .vw _ id _ _=>[id]|_=>[]
def Ja:SV->List Nat
 | .ls _ [.os id] =>[id]|s=>fX s
def pg:List SV->List Nat
 | [] =>[]|s::r=>Ja s++pg r
def TP:Ob->List Nat
 | .mi (some mid) _ _ _=>[mid]|_=>[]
def TQ (h:List Ob):SV->List Nat
 | .ptr id _=>TP (aq h id)|_=>[]
def fpO (cx:Cx):Op->List Nat×List Nat
 | .range _ m=>(fX (val cx m),[])| .entry it=>(fX (val cx it)++TQ cx.st.h (val cx it),[])| .load _ a=>(fX (val cx a),[])| .store _ a x=>(fX (val cx a)++fX (val cx x),[])| .indexAddr _ x _=>(fX (val cx x),[])| .slice _ x _ _ _=>(fX (val cx x),[])| .lookup _ m _ ok=>bif ok then(fX (val cx m),[])else([],fX (val cx m))| .mapUpdate _ m _ _=>(fX (val cx m),[])| .insert _ m _ _=>(fX (val cx m),[])| .mapEntry _ m _=>(fX (val cx m),[])| .entryStore _ m _ _=>(fX (val cx m),[])| .call ⟨.builtin .len,args,_⟩ =>(pg (dx cx args.toList),[])| .call ⟨.builtin .append,args,_⟩ =>(pg (dx cx args.toList),[])| .call ⟨.builtin .delete,args,_⟩ =>(pg (dx cx args.toList),[])| .call ⟨.builtin .clear,args,_⟩ =>(pg (dx cx args.toList),[])|_=>([],[])
def ft:List Up->List Nat
 | [] =>[]|(id,_)::r=>id::ft r
def zw:Op->Bool
 | .mapEntry .. =>true|_=>false
def fpU (o:Op)(x:List Nat×List Nat)(all:List Nat)(ups:List Up):Fp:=
 bif zw o then ⟨all,x.1,x.2,[],ft ups⟩else ⟨all,x.1,x.2,ft ups,[]⟩
def Ld (as:List Nat):List Edge->Nat
 | [] =>0|e::r=>bif Region.binds .any e then Nat.lor (Nat.lor ((nth as e.on).getD 0) (Nat.shiftLeft 1 e.on)) (Ld as r)else Ld as r
def AT:List Oper->List Nat->List Nat
 | [],as=>as|o::r,as=>AT r (as++[Ld as o.after.toList])
def so (as:List Nat)(i j:Nat):Bool:=Nat.testBit ((nth as i).getD 0) j
def CH (n:Nat):List Nat->Bool
 | [] =>false|m::r=>bif Nat.beq m n then true else CH n r
def tz:List Nat->List Nat->Bool
 | [],_=>false|a::r,l=>bif CH a l then true else tz r l
def tA (i e:Fp):Bool:=
 tz i.all e.tc||tz i.all e.wt||tz i.rd e.tc||tz i.rd e.wt||tz i.wk e.tc||tz i.tc e.tc||tz i.tc e.wt||tz i.wt e.tc||tz i.wt e.wt
def Le (as:List Nat)(i:Nat)(x:Fp):Nat->List Fp->Bool
 |_,[] =>true|j,y::r=>(Nat.beq i j|| !(tA x y) ||(Nat.blt j i&&so as i j) ||(Nat.blt i j&&so as j i))&&Le as i x (j+1) r
def PC (as:List Nat)(b:Nat)(all:List Fp):Nat->List Fp->Bool
 |_,[] =>true|i,x::r=>Le as i x b all&&PC as b all (i+1) r
def agb (ops:List Oper)(b:Nat)(fps:List Fp):Bool:=PC (AT ops []) b fps b fps
def HS:List Fp->Bool
 | [] =>true|x::r=>x.tc.isEmpty&&x.wt.isEmpty&&HS r
def sp (ops:List Oper)(b:Nat)(fps:List Fp):Prop:=bif HS fps then True else agb ops b fps=true
def Jb (as:List Nat)(c:Nat):Nat->List Oper->Bool
 |_,[] =>true|i,_::r=>(Nat.beq i c||(Nat.blt i c&&so as c i) ||(Nat.blt c i&&so as i c))&&Jb as c (i+1) r
def DP (ops:List Oper)(c:Nat):Bool:=Jb (AT ops []) c 0 ops
def dR (ops:List Oper)(t:List (Nat×SV)):Nat->Nat×Bool->Prop
 |0,_=>True
 |n+1,(j,want) =>match (nth ops j).bind (·.dst)with
  |some d=>match lk d t with
   | .v (.bool x) =>x=want| .gd j' b (.v (.bool x)) =>dR ops t n (j',b)/\x=want|_=>True
  |none=>True
def gC (ops:List Oper)(t:List (Nat×SV)):Nat->Nat×Bool->Prop
 |0,_=>True
 |n+1,(j,want) =>match (nth ops j).bind (·.dst)with
  |some d=>match lk d t with
   | .v (.bool x) =>¬x=want| .gd j' b (.v (.bool x)) =>gC ops t n (j',b)\/¬x=want|_=>True
  |none=>True
def wu (ops:List Oper)(t:List (Nat×SV)):Nat->Nat×Bool->Prop
 |0,_=>False
 |n+1,(j,want) =>match (nth ops j).bind (·.dst)with
  |some d=>match lk d t with
   | .v (.bool x) =>¬x=want| .gd j' b (.v (.bool x)) =>wu ops t n (j',b)\/¬x=want|_=>False
  |none=>False
def XV (szt off:Nat)(i:Int):Ob->SV
 | .row k l=>bif Nat.beq szt (aa k)then .ep (cellsOf k (l.getD i.toNat (eC k))) off else .any|_=>.any
def PD (szt off:Nat)(i j:Int):Ob->SV
 | .apg k l=>bif Nat.beq szt (aa k)then .ep (cellsOf k ((l.getD i.toNat []).getD j.toNat (eC k))) off else .any|_=>.any
def TR (i:Int):Ob->SV
 | .apg k l=>.rs k (l.getD i.toNat [])|_=>.any
def frz:Ob->SV
 | .row k l=>.rs k l| .mp kk vk l p=>bif noE p then .rm kk vk l else .any| .apg k l=>KZ k l| .fz k l=>.rs k l|_=>.any
def RH (f:SV->SV)(off:Nat):Ob->SV
 | .cells l=>.ep (l.map f) off|_=>.any
def XW (s:Nat)(lo hi:Int):Ob->SV
 | .row k l=>bif Nat.beq s (aa k)then .rs k ((l.take hi.toNat).drop lo.toNat)else .any|_=>.any
def gw (h:List Ob):Nat->SV->SV
 |_,.v x=>.v x|_,.rs k l=>.rs k l|_,.rc k l=>.rs k l|_,.e0=>.e0|_,.rm k k2 l=>.rm k k2 l|_,.os id=>frz (aq h id)|_,.vw s id lo hi=>XW s lo hi (aq h id)|_,.rp s id i off=>bif Nat.beq s 0 then .any else XV s off i (aq h id)|_,.gp s id i j off=>bif Nat.beq s 0 then .any else PD s off i j (aq h id)|_,.gr id i=>TR i (aq h id)|n+1,.ptr id off=>RH (gw h n) off (aq h id)|n+1,.ep l off=>.ep (l.map (gw h n)) off|n+1,.ls s l=>.ls s (l.map (gw h n))|n+1,.agg l=>.agg (l.map (gw h n))|n+1,.tup l=>.tup (l.map (gw h n))
 |n+1,.fn f first caps=>.fn f (first.map (gw h n)) (caps.map (gw h n))
 |_,_=>.any
def RI (f:SV->List Nat):Ob->List Nat
 | .cells l=>l.flatMap f|_=>[]
def kB (h:List Ob):Nat->SV->List Nat
 |_,.os id=>[id]|_,.rp _ id _ _=>[id]|_,.gp _ id _ _ _=>[id]|_,.gr id _=>[id]|_,.vw _ id _ _=>[id]|n+1,.ptr id _=>id::RI (kB h n) (aq h id)|n+1,.ep l _=>l.flatMap (kB h n)|n+1,.ls _ l=>l.flatMap (kB h n)|n+1,.agg l=>l.flatMap (kB h n)|n+1,.tup l=>l.flatMap (kB h n)
 |n+1,.fn _ first caps=>first.flatMap (kB h n)++caps.flatMap (kB h n)
 |_,_=>[]
def apG:List (Nat×SV)->List (Nat×SV)
 | [] =>[]|(d,.gd ..)::r=>(d,.any)::apG r|x::r=>x::apG r
def dA:Nat->SV->Bool
 |_,.v _=>true|_,.rs _ _=>true|_,.rm _ _ _=>true|_,.e0=>true|_,.rc _ _=>true|_,.any=>true|n+1,.ep l _=>l.all (dA n)|n+1,.ls _ l=>l.all (dA n)|n+1,.agg l=>l.all (dA n)|n+1,.tup l=>l.all (dA n)|n+1,.fn _ l m=>l.all (dA n)&&m.all (dA n)|_,_=>false
def jm:Nat->SV->Bool
 |_,.v _=>true|_,.nw k _=>Nat.beq (aoX k) 0|_,.nm k k2 _=>Nat.beq (aoX k) 0&&Nat.beq (aoX k2) 0|_,.ng k _=>Nat.beq (aoX k) 0|n+1,.agg l=>l.all (jm n)|n+1,.tup l=>l.all (jm n)|_,_=>false
def aV:Nat->SV->List Ob
 |_,.nw k l=>[.row k l]|_,.nm k k2 l=>[.mp k k2 l none]|_,.ng k l=>[.apg k l]|n+1,.agg l=>l.flatMap (aV n)|n+1,.tup l=>l.flatMap (aV n)|_,_=>[]
def rb (f:Nat->SV->SV)(c:SV->Nat):Nat->List SV->List SV
 |_,[] =>[]|b,x::r=>f b x::rb f c (b+c x) r
def jn:Nat->Nat->SV->SV
 |_,b,.nw _ _=>.os b|_,b,.nm _ _ _=>.os b|_,b,.ng _ _=>.os b
 |n+1,b,.agg l=>.agg (rb (jn n) (λs=>(aV n s).length) b l)
 |n+1,b,.tup l=>.tup (rb (jn n) (λs=>(aV n s).length) b l)
 |_,_,s=>s
def fH:Nat->SV->List Nat
 |_,.ptr id _=>[id]|_,.os id=>[id]|_,.rp _ id _ _=>[id]|_,.gr id _=>[id]|_,.gp _ id _ _ _=>[id]|_,.vw _ id _ _=>[id]|n+1,.ep l _=>l.flatMap (fH n)|n+1,.ls _ l=>l.flatMap (fH n)|n+1,.agg l=>l.flatMap (fH n)|n+1,.tup l=>l.flatMap (fH n)|n+1,.fn _ l m=>l.flatMap (fH n)++m.flatMap (fH n)|n+1,.gd _ _ s=>fH n s|_,_=>[]
def TS:Ob->List Nat
 | .cells l=>l.flatMap (fH 3)|_=>[]
def reach (h:List Ob):Nat->List Nat->List Nat->List Nat
 |0,_,acc=>acc|_+1,[],acc=>acc|n+1,id::todo,acc=>bif CH id acc then reach h n todo acc else reach h n (TS (aq h id)++todo) (acc++[id])
def yM (id:Nat):List Nat->Option Nat
 | [] =>none|a::r=>bif Nat.beq a id then some 0 else(yM id r).map (· +1)
def zx (f:Nat->SV):Option Nat->SV
 |some k=>f k|none=>.any
def ren (m:Nat->Option Nat):Nat->SV->SV
 |_,.ptr id off=>zx (λk=>.ptr k off) (m id)
 |_,.os id=>zx (λk=>.os k) (m id)
 |_,.rp s id i off=>zx (λk=>.rp s k i off) (m id)
 |_,.gr id i=>zx (λk=>.gr k i) (m id)
 |_,.gp s id i j off=>zx (λk=>.gp s k i j off) (m id)
 |_,.vw s id lo hi=>zx (λk=>.vw s k lo hi) (m id)
 |n+1,.ep l o=>.ep (l.map (ren m n)) o|n+1,.ls s l=>.ls s (l.map (ren m n))|n+1,.agg l=>.agg (l.map (ren m n))|n+1,.tup l=>.tup (l.map (ren m n))|n+1,.fn f l l2=>.fn f (l.map (ren m n)) (l2.map (ren m n))|_,.any=>.any|_,.v x=>.v x|_,.e0=>.e0|_,.rc k l=>.rc k l|_,.rs k l=>.rs k l|_,.rm k k2 l=>.rm k k2 l|_,_=>.any
def NI (kk vk:Tag)(l:List (kk.T×vk.T)):Option kk.T->Option Nat->Ob
 |p,some k=>.mp kk vk l (some (k,p))|some _,none=>.fwd none|none,none=>.mp kk vk l none
def uV (m:Nat->Option Nat):Ob->Ob
 | .cells l=>.cells (l.map (ren m 3))| .mi mid n left cur=>.mi (mid.bind m) n left cur| .fwd n=>.fwd (n.bind m)| .mp kk vk l (some (i,p)) =>NI kk vk l p (m i)|o=>o
def inN (ids:List Nat)(i:Nat):Option Nat:=yM i ids
def rF (h:List Ob)(ids:List Nat):List Ob:=ids.map λid=>uV (inN ids) (aq h id)
def rB (ids:List Nat)(b:Nat)(k:Nat):Option Nat:=match nth ids k with|some id=>some id|none=>some (b+(k - ids.length))
def j9 (ids:List Nat)(b:Nat)(k:Nat):Nat:=match nth ids k with|some id=>id|none=>b+(k - ids.length)
def mJ (ids:List Nat)(b:Nat)(h:List Ob):Nat->List Ob->List Ob
 |_,[] =>h|k,o::r=>mJ ids b (cF h (j9 ids b k) (uV (rB ids b) o)) (k+1) r
def Jc (ids:List Nat)(d:Option Nat)(st:St)(K:St->Prop)(Z:Value->St->Prop):Rs->Prop
 | .ret s h=>K (St.put ⟨st.t,mJ ids st.h.length st.h 0 h⟩ d (ren (rB ids st.h.length) 3 s))| .pan x h=>Z x ⟨apG st.t,mJ ids st.h.length st.h 0 h⟩
def RJ (ids:List Nat)(g:Nat×Bool)(d:Option Nat)(st:St)(K:St->Prop)(Z:Value->St->Prop):Rs->Prop
 | .ret s h=>K (St.put ⟨st.t,mJ ids st.h.length st.h 0 h⟩ d (.gd g.1 g.2 (ren (rB ids st.h.length) 3 s)))| .pan x h=>Z x ⟨apG st.t,mJ ids st.h.length st.h 0 h⟩
def ym (ids:List Nat)(d:Option Nat)(st:St)(K:St->Prop)(Z:Value->St->Prop):Option ao3->Prop
 |some c=>c.pre/\∀ r,c.post r->Jc ids d st K Z (c.res r)|none=>False
def yN (ids:List Nat)(ops:List Oper)(g:Nat×Bool)(d:Option Nat)(st:St)(K:St->Prop)(Z:Value->St->Prop):Option ao3->Prop
 |some c=>(dR ops st.t ops.length g->c.pre/\∀ r,c.post r->RJ ids g d st K Z (c.res r))/\(gC ops st.t ops.length g->K (st.put d (.gd g.1 g.2 .any)))|none=>wu ops st.t ops.length g/\K (st.put d (.gd g.1 g.2 .any))
def wv (np:Bool)(ids:List Nat)(d:Option Nat)(st:St)(K:St->Prop)(Z:Value->St->Prop)(c:Option ao3):Option Con->Prop
 |some (.det p s) =>bif np||jm 3 s then(p/\K (St.put ⟨st.t,st.h++aV 3 s⟩ d (jn 3 st.h.length s)))else ym ids d st K Z c
 |some (.rel _ pre post out) =>pre/\(bif np then ∀ r,post r->K (St.put ⟨st.t,st.h++aV 3 (out r)⟩ d (jn 3 st.h.length (out r)))else False)
 |some (.may ok s x) =>bif np||jm 3 s then(ok=true->K (St.put ⟨st.t,st.h++aV 3 s⟩ d (jn 3 st.h.length s)))/\(ok=false->Z x ⟨apG st.t,st.h⟩)else False
 |none=>ym ids d st K Z c
def DQ (np:Bool)(ids:List Nat)(ops:List Oper)(g:Nat×Bool)(d:Option Nat)(st:St)(K:St->Prop)(Z:Value->St->Prop)(c:Option ao3):Option Con->Prop
 |some (.det p s) =>(dR ops st.t ops.length g->p)/\(bif(np||jm 3 s)&&(aV 3 s).isEmpty then K (st.put d (.gd g.1 g.2 s))else False)|none=>yN ids ops g d st K Z c|_=>False
def NJ (id:Nat)(d:Option Nat)(st:St)(K:St->Prop):Option ap_->Prop
 |some c=>c.pre/\∀ r,c.post r->K (St.put ⟨st.t,cF st.h id (.ab (c.res r).2)⟩ d (.b (c.res r).1))|none=>False
def Lf (id:Nat)(ops:List Oper)(g:Nat×Bool)(d:Option Nat)(st:St)(K:St->Prop):Option ap_->Prop
 |some c=>(dR ops st.t ops.length g->c.pre/\∀ r,c.post r->K (St.put ⟨st.t,cF st.h id (.ab (c.res r).2)⟩ d (.gd g.1 g.2 (.b (c.res r).1))))/\(gC ops st.t ops.length g->K (st.put d (.gd g.1 g.2 .any)))|none=>False
def Jd (G:Cons)(args:List SV):Ob->Option ap_
 | .ab r=>G.y args r|_=>none
def TT (id mid n:Nat)(left:List Nat)(d:Option Nat)(st:St)(next:St->Prop):Ob->Prop
 | .mp kk vk l (some (it,none)) =>(it=id/\n=l.length)/\(left=[]->next (st.put d (.tup [.v (.bool false)])))/\
   ∀ j,j∈left->next (St.put ⟨st.t,cF st.h id (.mi (some mid) n (left.erase j) (some j))⟩ d (.tup [.v (.bool true),svT kk (l.getD j (eC kk,eC vk)).1,svT vk (l.getD j (eC kk,eC vk)).2]))
 |_=>False
def XX (id:Nat)(d:Option Nat)(st:St)(next:St->Prop):Ob->Prop
 | .mi (some mid) n left _=>TT id mid n left d st next (aq st.h mid)|_=>False
def lJ (G:Cons)(d:Option Nat)(st:St)(next:St->Prop)(Z:Value->St->Prop):OR->Prop
 | .val s=>next (st.put d s)| .chk c s=>c/\next (st.put d s)| .asm c s=>c->next (st.put d s)| .apI s=>next (st.put d s)| .eff c a ups s=>c/\(a->next (St.put ⟨st.t,bf st.h ups⟩ d s))| .call f args=>wv (args.all (dA 3)) (reach st.h 64 (args.flatMap (fH 3)) []) d st next Z (G.o f (args.map (ren (inN (reach st.h 64 (args.flatMap (fH 3)) [])) 6)) (rF st.h (reach st.h 64 (args.flatMap (fH 3)) []))) (G.p f (args.map (gw st.h 6)))| .yld id args=>bif args.all (dA 3)then NJ id d st next (Jd G args (aq st.h id))else False| .nxt id=>XX id d st next (aq st.h id)| .amb p=>∀ b,p b->next (st.put d (.v (.bool b)))| .pan x=>Z x ⟨apG st.t,st.h⟩| .bad=>False
def stepG (G:Cons)(ops:List Oper)(g:Nat×Bool)(d:Option Nat)(st:St)(next:St->Prop)(Z:Value->St->Prop):OR->Prop
 | .val s=>next (st.put d (.gd g.1 g.2 s))| .chk c s=>(dR ops st.t ops.length g->c)/\next (st.put d (.gd g.1 g.2 s))| .asm _ s=>next (st.put d (.gd g.1 g.2 s))| .apI s=>next (st.put d (.gd g.1 g.2 s))| .eff c a ups s=>(dR ops st.t ops.length g->c/\(a->next (St.put ⟨st.t,bf st.h ups⟩ d (.gd g.1 g.2 s))))/\(gC ops st.t ops.length g->next (st.put d (.gd g.1 g.2 .any)))| .call f args=>DQ (args.all (dA 3)) (reach st.h 64 (args.flatMap (fH 3)) []) ops g d st next Z (G.o f (args.map (ren (inN (reach st.h 64 (args.flatMap (fH 3)) [])) 6)) (rF st.h (reach st.h 64 (args.flatMap (fH 3)) []))) (G.p f (args.map (gw st.h 6)))| .yld id args=>bif args.all (dA 3)then Lf id ops g d st next (Jd G args (aq st.h id))else False| .bad=>wu ops st.t ops.length g/\next (st.put d (.gd g.1 g.2 .any))| .nxt _=>False| .amb _=>False| .pan _=>False
def jo (ts:Tis)(G:Cons)(ops:List Oper):List Oper->St->(St->Prop)->(Value->St->Prop)->Prop
 | [],st,K,_=>K st
 |o::rest,st,K,Z=>match o.guard with
  |none=>lJ G o.dst st (λst'=>jo ts G ops rest st' K Z) Z (opS ⟨ts,ops,none,st,st.h.length⟩ o.op)
  |some g=>stepG G ops g o.dst st (λst'=>jo ts G ops rest st' K Z) Z (opS ⟨ts,ops,some g,st,st.h.length⟩ o.op)
structure Dr where
 c:Prop
 a:Prop
 s:SV
 ups:List Up
 all:List Nat
def drR (np:Bool)(rd:List Nat)(nx:Nat)(p:Prop)(s:SV):List Ob->Option Dr
 | [] =>bif np||jm 3 s then some ⟨p,True,s,[],rd⟩else none
 | [ob] =>bif np||jm 3 s then some ⟨p,True,jn 3 nx s,[(nx,ob)],rd⟩else none
 |_=>none
def drC (np:Bool)(rd:List Nat)(nx:Nat):Option Con->Option Dr
 |some (.det p s) =>drR np rd nx p s (aV 3 s)|_=>none
def jM (G:Cons)(h:List Ob)(nx:Nat):OR->Option Dr
 | .val s=>some ⟨True,True,s,[],[]⟩| .chk c s=>some ⟨c,True,s,[],[]⟩| .asm c s=>some ⟨True,c,s,[],[]⟩| .apI s=>some ⟨True,True,s,[],[]⟩| .eff c a ups s=>some ⟨c,a,s,ups,[]⟩| .call f args=>drC (args.all (dA 3)) (args.flatMap (kB h 6)) nx (G.p f (args.map (gw h 6)))| .bad=>some ⟨False,True,.any,[],[]⟩|_=>none
def drN (d:Option Nat)(st:St)(next:List Nat->List Up->St->Prop)(r:Dr):Prop:=r.c/\(r.a->next r.all r.ups (St.put ⟨st.t,bf st.h r.ups⟩ d r.s))
def drG (ops:List Oper)(g:Nat×Bool)(d:Option Nat)(st:St)(next:List Nat->List Up->St->Prop)(r:Dr):Prop:=
 bif r.ups.isEmpty then(dR ops st.t ops.length g->r.c)/\next r.all [] (st.put d (.gd g.1 g.2 r.s))
 else ¬ (dR ops st.t ops.length g/\gC ops st.t ops.length g)/\(dR ops st.t ops.length g->r.c/\(r.a->next r.all r.ups (St.put ⟨st.t,bf st.h r.ups⟩ d (.gd g.1 g.2 r.s))))/\(gC ops st.t ops.length g->next r.all [] (st.put d (.gd g.1 g.2 r.s)))
def yO (d:Option Nat)(st:St)(next:List Nat->List Up->St->Prop)(are:Prop):Option Dr->Prop
 |some r=>drN d st next r|none=>are
def ww (ops:List Oper)(g:Nat×Bool)(d:Option Nat)(st:St)(next:List Nat->List Up->St->Prop)(are:Prop):Option Dr->Prop
 |some r=>drG ops g d st next r|none=>are
def jQ (ts:Tis)(G:Cons)(ops:List Oper)(K:St->Prop)(Z:Value->St->Prop):List Oper->(i b:Nat)->List Fp->St->Prop
 | [],_,b,fps,st=>sp ops b fps/\K st
 |o::rest,i,b,fps,st=>match o.guard with
  |none=>yO o.dst st (λall ups st'=>jQ ts G ops K Z rest (i+1) b (fps++[fpU o.op (fpO ⟨ts,ops,none,st,st.h.length⟩ o.op) all ups]) st')
    (sp ops b fps/\DP ops i=true/\lJ G o.dst st (λst'=>jQ ts G ops K Z rest (i+1) (i+1) [] st') Z (opS ⟨ts,ops,none,st,st.h.length⟩ o.op))
    (jM G st.h st.h.length (opS ⟨ts,ops,none,st,st.h.length⟩ o.op))
  |some g=>ww ops g o.dst st (λall ups st'=>jQ ts G ops K Z rest (i+1) b (fps++[fpU o.op (fpO ⟨ts,ops,some g,st,st.h.length⟩ o.op) all ups]) st')
    (sp ops b fps/\DP ops i=true/\stepG G ops g o.dst st (λst'=>jQ ts G ops K Z rest (i+1) (i+1) [] st') Z (opS ⟨ts,ops,some g,st,st.h.length⟩ o.op))
    (jM G st.h st.h.length (opS ⟨ts,ops,some g,st,st.h.length⟩ o.op))
def abJ (id:Nat):Ob->SV
 | .fwd (some n) =>.os n|_=>.os id
def TU (h:List Ob):SV->SV
 | .os id=>abJ id (aq h id)|s=>s
def NK (h:List Ob):List (Nat×SV)->List (Nat×SV)
 | [] =>[]|(d,s)::r=>(d,TU h s)::NK h r
def PE:Ob->Bool
 | .fwd (some _) =>true|_=>false
def oo:List Ob->Bool
 | [] =>false
 |o::r=>PE o||oo r
def abK:Ob->Ob
 | .fwd _=>.dead|o=>o
def yn:List Ob->List Ob
 | [] =>[]|o::r=>abK o::yn r
def ap8 (st:St):St:=bif oo st.h then ⟨NK st.h st.t,yn st.h⟩else st
def wx (ops:List Oper)(st:St):St:=ap8 (bif ops.any (·.guard.isSome)then ⟨apG st.t,st.h⟩else st)
inductive Ex where
 |normal
 |exit (id:Nat)
 |ret
 |pan (x:Value)
def Ex.then (K:St->Prop)(Q:Ex->St->Prop):Ex->St->Prop
 | .normal,st=>K st|e,st=>Q e st
def Ex.block (id:Nat)(Q:Ex->St->Prop):Ex->St->Prop
 | .exit j,st=>bif Nat.beq j id then Q .normal st else Q (.exit j) st|e,st=>Q e st
def zy (x y:Prop):SV->Prop
 | .v (.bool b) =>(b=true->x)/\(b=false->y)|_=>False
structure apB where
 α:Type
 pre:Prop
 post:α->Prop
 ex:α->Ex
 out:α->St
abbrev vP:=Nat->St->Option apB
def rC (Q:Ex->St->Prop):Option apB->Prop
 |some c=>c.pre/\∀ r,c.post r->Q (c.ex r) (c.out r)|none=>False
def TV:Operand->Nat
 | .tmp n=>n+1000000|_=>0
def aqd (t:List (Nat×SV)):List (Nat×SV)->Prop
 | [] =>True|(n,s)::r=>lk n t=s/\aqd t r
def inJ (d:St):Ex->St->Prop
 | .normal,st=>st.h=d.h/\aqd st.t d.t|_,_=>False
def TW (x y:(Ex->St->Prop)->Prop)(Q:Ex->St->Prop)(s:SV)(c:apB):Prop:=
 zy (x λe st=>∃ r,c.post r/\inJ (c.out r) e st) (y λe st=>∃ r,c.post r/\inJ (c.out r) e st) s/\∀ r,c.post r->Q .normal (c.out r)
def DR (x y:(Ex->St->Prop)->Prop)(Q:Ex->St->Prop)(s:SV):Option apB->Prop
 |none=>zy (x Q) (y Q) s|some c=>TW x y Q s c
def JC (d:St):apB:=⟨Unit,True,λ_=>True,λ_=>.normal,λ_=>d⟩
def agc (c:apB)(Q:Ex->St->Prop):Ex->St->Prop
 | .normal,st=>∃ r,c.post r/\inJ (c.out r) .normal st|e,st=>Q e st
def inC (d:St)(Q:Ex->St->Prop):Ex->St->Prop
 | .normal,st=>inJ d .normal st|e,st=>Q e st
def ar0 (x:(Ex->St->Prop)->Prop)(Q:Ex->St->Prop)(c:apB):Prop:=x (agc c Q)/\∀ r,c.post r->Q .normal (c.out r)
def DS (x:(Ex->St->Prop)->Prop)(Q:Ex->St->Prop):Option apB->Prop
 |none=>x Q|some c=>ar0 x Q c
def Cc (ts:Tis)(G:Cons)(ops:Array Oper)(d:Bool)(st:St)(Q:Ex->St->Prop):Prop:=
 bif d then jQ ts G ops.toList (λst'=>Q .normal (wx ops.toList st')) (λx st'=>Q (.pan x) st') ops.toList 0 0 [] st
   else jo ts G ops.toList ops.toList st (λst'=>Q .normal (wx ops.toList st')) (λx st'=>Q (.pan x) st')
def exec (ts:Tis)(G:Cons)(L:vP):Code->St->(Ex->St->Prop)->Prop
 | .skip,st,Q=>Q .normal st| .region id ops d,st,Q=>DS (Cc ts G ops d st) Q (L (id+2000000) st)
 | .seq a b,st,Q=>exec ts G L a st (Ex.then (λst'=>exec ts G L b st' Q) Q)
 | .cond c x y,st,Q=>DR (exec ts G L x st) (exec ts G L y st) Q (raw st.t c) (L (TV c) st)| .block id (.loop _),st,Q=>rC Q (L id st)| .block id (.rangeFunc ..),st,Q=>rC Q (L id st)| .block id c,st,Q=>exec ts G L c st (Ex.block id Q)| .exit id,st,Q=>Q (.exit id) st| .ret,st,Q=>Q .ret st| .scope c,st,Q=>exec ts G L c st Q| .label _,st,Q=>Q .normal st|_,_,_=>False
def XY:OR->Option SV
 | .val s=>some s|_=>none
def RK (ts:Tis)(st:St):ResultVar->Option SV
 | .tmp n=>some (lk n st.t)
 | .cell q t=>XY (aI ts t λti=>qy ti st.h (lk q st.t))
def Lg:Option SV->Option (List SV)->Option (List SV)
 |some s,some l=>some (s::l)|_,_=>none
def re (ts:Tis)(st:St):List ResultVar->Option (List SV)
 | [] =>some []|x::r=>Lg (RK ts st x) (re ts st r)
def th:Option (List SV)->Option SV
 |some [s] =>some s|some l=>some (.tup l)|none=>none
def agd (h:List Ob):Option SV->Option SV
 |some s=>some (gw h 4 s)|none=>none
def DT (rs:List ResultVar)(ts:Tis)(st:St):Option SV:=agd st.h (th (re ts st rs))
def wy:Ob->SV
 | .row k l=>.nw k l| .mp k k2 l none=>.nm k k2 l| .apg k l=>.ng k l|_=>.any
def yo (h:List Ob):Nat->SV->SV
 |_,.os id=>wy (aq h id)|n+1,.agg l=>.agg (l.map (yo h n))|n+1,.tup l=>.tup (l.map (yo h n))|_,.v x=>.v x|_,.rs k l=>.rs k l|_,.rm k k2 l=>.rm k k2 l|_,.e0=>.e0|n,s=>bif dA n s then s else .any
def uW:Nat->SV->List Nat
 |_,.os id=>[id]|n+1,.agg l=>l.flatMap (uW n)|n+1,.tup l=>l.flatMap (uW n)|_,_=>[]
def uniq:List Nat->Bool
 | [] =>true|a::r=>!(CH a r)&&uniq r
def Cd (h:List Ob)(s:SV):Option SV:=bif uniq (uW 3 s)&&(uW 3 s).all (λi=>Nat.blt i h.length)then some (yo h 3 s)else none
def aaw (h:List Ob):Option SV->Option SV
 |some s=>Cd h s|none=>none
def RL (rs:List ResultVar)(ts:Tis)(st:St):Option SV:=aaw st.h (th (re ts st rs))
def DU (m:Bool)(rs:List ResultVar)(ts:Tis)(st:St):Option SV:=bif m then RL rs ts st else DT rs ts st
def Dh (ops:List Oper)(i:Nat)(o:Oper):Bool:=
 match o.guard with
 |none=>true
 |some (j,_) =>Nat.blt j i&&(match (nth ops j).bind (·.dst)with
  |some d=>(List.range ops.length).all λk=>Nat.beq k j||(match (nth ops k).bind (·.dst)with|some e=>!(Nat.beq d e) |none=>true)
  |none=>false)
def TX (N:Nat)(ops:List Oper):Bool:=
 (List.range ops.length).all λi=>match nth ops i with
  |some o=>(match o.dst with|some d=>Nat.blt d N|none=>true)&&Dh ops i o
  |none=>true
def pi (o:Oper)(k:Nat):Bool:=o.after.toList.any λe=>Nat.beq e.on k&&Region.binds .any e
def NL (ops:Array Oper):Bool:=
 (List.range ops.size).all λi=>match nth ops.toList i with
  |some o=>
   (o.after.toList.all λe=>!(Region.binds .any e) ||Nat.blt e.on i)&&
   (List.range ops.size).all λk=>match nth ops.toList k with
    |some q=>match q.dst with
     |some d=>(Nat.beq k i|| !(o.dst==some d))&&(!((o.looksAt ops).contains d) ||Nat.beq k i||(Nat.blt k i&&pi o k) ||(Nat.blt i k&&pi q i))|none=>true
    |none=>true
  |none=>true
def cV (N:Nat):Code->Bool
 | .region _ ops d=>TX N ops.toList&&(!d||NL ops)| .seq a b=>cV N a&&cV N b| .cond _ a b=>cV N a&&cV N b| .block _ c=>cV N c| .loop c=>cV N c| .scope c=>cV N c| .rangeFunc _ _ a b=>cV N a&&cV N b|_=>true
def mK:Nat->Nat->SV->Bool
 |_,_,.v _=>true|_,_,.rs _ _=>true|_,_,.rm _ _ _=>true|_,_,.any=>true|_,_,.e0=>true|_,_,.rc _ _=>true|_,n,.ptr id _=>Nat.blt id n|_,n,.os id=>Nat.blt id n|_,n,.rp _ id _ _=>Nat.blt id n|_,n,.gr id _=>Nat.blt id n|_,n,.gp _ id _ _ _=>Nat.blt id n|_,n,.vw _ id _ _=>Nat.blt id n|f+1,n,.ep l _=>l.all (mK f n)|f+1,n,.ls _ l=>l.all (mK f n)|f+1,n,.agg l=>l.all (mK f n)|f+1,n,.tup l=>l.all (mK f n)|f+1,n,.fn _ l m=>l.all (mK f n)&&m.all (mK f n)|_,_,_=>false
def RM (m:Nat->Option Nat)(n:Nat)(t:List (Nat×SV)):List (Nat×SV)->Prop
 | [] =>True|(i,s)::r=>(lk i t=ren m 5 s/\mK 5 n s=true)/\RM m n t r
def dI:Ob->Bool
 | .dead=>true|_=>false
def vQ (n:Nat):Ob->Bool
 | .cells l=>l.all (mK 3 n)| .mi (some i) _ _ _=>Nat.blt i n| .fwd (some i) =>Nat.blt i n| .mp _ _ _ (some (i,_)) =>Nat.blt i n|_=>true
def unp {κ:Type}:Option (Nat×Option κ)->Option (Nat×Option κ)
 |some (_,none) =>none|p=>p
def PH:SV->Bool
 | .any=>true|_=>false
def wkL:List SV->List SV->List SV
 |a::r,x::s=>(bif PH a then .any else x)::wkL r s|_,s=>s
def DV:Ob->Ob->Ob
 | .mp _ _ _ none,.mp kk vk l p=>.mp kk vk l (unp p)| .cells a,.cells l=>.cells (wkL a l)|_,o=>o
def Je (m:Nat->Option Nat)(n:Nat)(h:List Ob)(j:Nat)(o:Ob):Prop:=bif dI o then True else DV o (aq h j)=uV m o/\vQ n o=true
def GK (m:Nat->Option Nat)(n:Nat)(h:List Ob):List Nat->List Ob->Prop
 | [],[] =>True|j::js,o::r=>Je m n h j o/\GK m n h js r|_,_=>False
def mu:List Nat->List Ob->List Nat
 |j::js,o::r=>bif dI o then mu js r else j::mu js r|_,_=>[]
def AU:Nat->List Nat->Nat->Bool
 |_,[],_=>true|i,j::js,n=>(Nat.beq i j||Nat.ble n i)&&AU (i+1) js n
def DW (js:List Nat)(i:Nat):Option Nat:=nth js i
def Sub (js:List Nat)(n0:Nat)(st st2:St):Prop:=
 (uniq (mu js st2.h)=true/\AU 0 js n0=true/\js.all (λj=>Nat.blt j st.h.length)=true)/\RM (DW js) st2.h.length st.t st2.t/\GK (DW js) st2.h.length st.h js st2.h
def uX {σ:Type}(D:σ->St)(I:σ->Prop)(m:σ->Nat)(n0:Nat)(x:σ)(id:Nat)(Q:Ex->St->Prop):Ex->St->Prop
 | .normal,st=>∃ y js,I y/\m y<m x/\n0<=(D y).h.length/\Sub js n0 st (D y)| .exit j,st=>bif Nat.beq j id then Q .normal st else Q (.exit j) st| .ret,st=>Q .ret st| .pan x,st=>Q (.pan x) st
def nV:Nat->List SV->List (Nat×SV)
 |_,[] =>[]|n,s::r=>(n,s)::nV (n+1) r
def iR (post:SV->Prop):Option SV->Prop
 |some s=>post s|none=>False
def DX (m:Bool)(rs:List ResultVar)(ts:Tis)(post:SV->Prop)(pp:Value->Prop):Ex->St->Prop
 | .exit _,_=>False| .normal,st=>iR post (DU m rs ts st)| .ret,st=>iR post (DU m rs ts st)| .pan x,_=>pp x
def DY (n0:Nat)(C:ao3):Option SV->List Ob->Prop
 |some s,h=>∃ r s' h' js,C.post r/\C.res r=.ret s' h'/\n0<=h'.length/\Sub js n0 ⟨[(0,s)],h⟩ ⟨[(0,s')],h'⟩|none,_=>False
def Lh (n0:Nat)(rs:List ResultVar)(ts:Tis)(C:ao3):Ex->St->Prop
 | .exit _,_=>False| .normal,st=>DY n0 C (th (re ts st rs)) st.h| .ret,st=>DY n0 C (th (re ts st rs)) st.h| .pan x,st=>∃ r h' js,C.post r/\C.res r=.pan x h'/\n0<=h'.length/\Sub js n0 ⟨[],st.h⟩ ⟨[],h'⟩
structure Hd where
 p:Option Nat:=none
 v:Value:=undef
 vs:List Value:=[]
 bs:List Nat:=[]
abbrev Own:=Nat->Option Hd
def df (F:Nat->Prop)(own:Own)(b:Nat):Prop:=F b\/∃ id hd,own id=some hd/\b∈hd.bs
def dB:Own:=λ_=>none
def Hd.like (a b:Hd):Prop:=b.p=a.p/\b.v=a.v/\b.vs=a.vs
theorem Hd.like.refl (a:Hd):a.like a:=⟨rfl,rfl,rfl⟩
theorem Hd.like.trans {a b c:Hd}(h:a.like b)(h':b.like c):a.like c:=⟨h'.1.trans h.1,h'.2.1.trans h.2.1,h'.2.2.trans h.2.2⟩
def pr:Value->Bool
 | .agg _=>false| .tuple _=>false|_=>true
variable {v:Value}
theorem DZ(h:pr v=true):v.cells= #[v]:=by cases v <;>first|rfl|simp[pr]at h
theorem mv(h:pr v=true):v.oneCell'=true:=by cases v <;>first|rfl|simp[pr]at h
def abL (x:Value)(sz:Nat)(lo hi:Int)(a:Option Addr):Prop:=hi.toNat<=lo.toNat\/∃ b o n cap,x=.slice (some ⟨b,o,none⟩) n cap/\hi.toNat<=n/\a=some ⟨b,o+lo.toNat*sz,none⟩
inductive Rel (F:Nat->Prop)(own:Own)(w:World):SV->Value->Prop where
 |any (v:Value):Rel F own w .any v
 |v (x:Value):Rel F own w (.v x) x
 |ptr {id off b:Nat} {hd:Hd}:own id=some hd->hd.p=some b->Rel F own w (.ptr id off) (.pointer (some ⟨b,off,none⟩))
 |os {id:Nat} {hd:Hd}:own id=some hd->pr hd.v=true->Rel F own w (.os id) hd.v
 |e0 {a:Option Addr}:Rel F own w .e0 (.slice a 0 0)
 |rc {k:Tag} {l:List k.T} {a:Option Addr}:Rel F own w (.rs k l) (.slice a l.length l.length)->Rel F own w (.rc k l) (.slice a l.length l.length)
 |rp {sz id off n cap b o:Nat} {i:Int} {hd:Hd}:own id=some hd->hd.v=.slice (some ⟨b,o,none⟩) n cap->i.toNat<n->Rel F own w (.rp sz id i off) (.pointer (some ⟨b,o+i.toNat*sz+off,none⟩))
 |gr {id:Nat} {i:Int} {v:Value} {hd:Hd}:own id=some hd->hd.vs[i.toNat]? =some v->pr v=true->Rel F own w (.gr id i) v
 |gp {sz id off n cap b o:Nat} {i j:Int} {hd:Hd}:own id=some hd->hd.vs[i.toNat]? =some (.slice (some ⟨b,o,none⟩) n cap)->j.toNat<n->Rel F own w (.gp sz id i j off) (.pointer (some ⟨b,o+j.toNat*sz+off,none⟩))
 |vw {sz id cap:Nat} {lo hi:Int} {hd:Hd} {a:Option Addr}:own id=some hd->abL hd.v sz lo hi a->hi.toNat - lo.toNat<=cap->Rel F own w (.vw sz id lo hi) (.slice a (hi.toNat - lo.toNat) cap)
 |ep {cells:List SV} {off b o:Nat} (c:Nat->Value):
   (∀ j s,cells[j]? =some s->¬df F own b/\w.cell? ⟨b,o+j,none⟩=some (c j))->(∀ j s,cells[j]? =some s->Rel F own w s (c j))->
   Rel F own w (.ep cells off) (.pointer (some ⟨b,o+off,none⟩))
 |rs {k:Tag} {l:List k.T} {b o cap:Nat} (c:Nat->Nat->Value):l.length<=cap->l.length<=aK->
   (∀ (i:Nat) (x:k.T),l[i]? =some x->∀ (j:Nat) (s:SV),(cellsOf k x)[j]? =some s->¬df F own b/\w.cell? ⟨b,o+i*aa k+j,none⟩=some (c i j))->
   (∀ (i:Nat) (x:k.T),l[i]? =some x->∀ (j:Nat) (s:SV),(cellsOf k x)[j]? =some s->Rel F own w s (c i j))->
   Rel F own w (.rs k l) (.slice (some ⟨b,o,none⟩) l.length cap)
 |rs0 {k:Tag} {a:Option Addr} {cap:Nat}:Rel F own w (.rs k []) (.slice a 0 cap)
 |ls {z n:Nat} {l:List SV} {b o cap:Nat} (c:Nat->Value):n*z=l.length->n<=cap->
   (∀ j s,l[j]? =some s->¬df F own b/\w.cell? ⟨b,o+j,none⟩=some (c j))->(∀ j s,l[j]? =some s->Rel F own w s (c j))->
   Rel F own w (.ls z l) (.slice (some ⟨b,o,none⟩) n cap)
 |rm {kk vk:Tag} {l:List (kk.T×vk.T)} {b:Nat} (ck cv:Nat->Value) (es:Array MapEntry) (clock:Nat):¬df F own b->w.heap[b]? =some (.map es clock)->es.size=l.length->
   (∀ (i:Nat) (x:kk.T×vk.T),l[i]? =some x->∃ n,es[i]? =some ⟨ck i,cv i,n⟩)->
   (∀ (i:Nat) (x:kk.T×vk.T),l[i]? =some x->Rel F own w (svT kk x.1) (ck i))->(∀ (i:Nat) (x:kk.T×vk.T),l[i]? =some x->Rel F own w (svT vk x.2) (cv i))->
   Rel F own w (.rm kk vk l) (.map (some b))
 |rm0 {kk vk:Tag}:Rel F own w (.rm kk vk []) (.map none)
 |agg {l:List SV} {vs:Array Value}:vs.size=l.length->(∀ (j:Nat) (s:SV),l[j]? =some s->Rel F own w s (vs.getD j undef))->Rel F own w (.agg l) (.agg vs)
 |tup {l:List SV} {vs:Array Value}:vs.size=l.length->(∀ (j:Nat) (s:SV),l[j]? =some s->Rel F own w s (vs.getD j undef))->Rel F own w (.tup l) (.tuple vs)
 |fn {f:FuncId} {first caps:List SV} {us vs:Array Value}:us.size=first.length->vs.size=caps.length->(∀ (j:Nat) (s:SV),first[j]? =some s->Rel F own w s (us.getD j undef))->
   (∀ (j:Nat) (s:SV),caps[j]? =some s->Rel F own w s (vs.getD j undef))->Rel F own w (.fn f first caps) (.func (.func f) us vs)
structure apx (F:Nat->Prop)(own:Own)(w:World)(bo:Own)(w':World):Prop where
 ids:∀ (id:Nat) (hd:Hd),own id=some hd->∃ hd',bo id=some hd'/\hd.like hd'
 keep:∀ b,b<w.heap.size->¬df F own b->¬df F bo b/\w'.heap[b]? =w.heap[b]?
 size:w.heap.size<=w'.heap.size
structure Bs where
 w:World
 own:Own:=dB
 ds:List Deferred:=[]
def Old (B:Bs)(b:Nat):Prop:=b<B.w.heap.size/\¬ ∃ id hd,B.own id=some hd/\b∈hd.bs
structure Fr (B:Bs)(own:Own)(w:World):Prop where
 ids:∀ (id:Nat) (hd:Hd),B.own id=some hd->∃ hd',own id=some hd'/\hd.like hd'
 base:∀ (id:Nat) (hd:Hd) (b:Nat),own id=some hd->b∈hd.bs->¬Old B b
 os:w.os=B.w.os
 tape:w.tape=B.w.tape
 output:w.output=B.w.output
 size:B.w.heap.size<=w.heap.size
 block:∀ k,Old B k->w.heap[k]? =B.w.heap[k]?
theorem Fr.refl (B:Bs):Fr B B.own B.w:=⟨λ_ hd h=>⟨hd,h,.refl _⟩,λid hd _ h O E=>E.2 ⟨id,hd,h,O⟩,rfl,rfl,rfl,alw _,λ_ _=>rfl⟩
variable {B:Bs}{w w':World}
theorem Fr.below{own:Own}(h:Fr B own w)(E:Below w.heap.size w w'):Fr B own w':=
 ⟨h.ids,h.base,E.os.trans h.os,E.tape.trans h.tape,E.output.trans h.output,alQ h.size E.size,λk O=>(E.block k (alG O.1 h.size)).trans (h.block k O)⟩
theorem Fr.drew{own:Own}(h:Fr B own w):Fr B own { w with drawn:=w.drawn+1}:=⟨h.ids,h.base,h.os,h.tape,h.output,h.size,h.block⟩
variable {bo:Own}
theorem Fr.trans{own:Own}(h:Fr B own w)(h':Fr { w:=w,own:=own} bo w'):Fr B bo w':=by
 have E:∀ k,Old B k->Old { w:=w,own:=own} k:=λk O=>⟨alG O.1 h.size,λ⟨id,hd,hm,U⟩ =>h.base id hd k hm U O⟩;refine⟨λid hd hi=>?_,λid hd b hi U X=>h'.base id hd b hi U (E b X),h'.os.trans h.os,h'.tape.trans h.tape,h'.output.trans h.output,alQ h.size h'.size,
  λk O=>(h'.block k (E k O)).trans (h.block k O)⟩
 obtain⟨W,Y,l1⟩:=h.ids id hd hi;obtain⟨V,e2,l2⟩:=h'.ids id W Y;exact⟨V,e2,l1.trans l2⟩
variable {F:Nat->Prop}
theorem Fr.apD{own:Own}(h:Fr { w:=w,own:=own} bo w'):apx F own w bo w':=
 ⟨h.ids,λb X V=>by
  have U:Old { w:=w,own:=own} b:=⟨X,λ⟨id,hd,E,O⟩ =>V (.inr ⟨id,hd,E,O⟩)⟩;refine⟨?_,h.block b U⟩;rintro (W| ⟨id,hd,E,O⟩);exact V (.inl W);exact h.base id hd b E O U,h.size⟩
theorem Fr.apM{own:Own}(ids:∀ (id:Nat) (hd:Hd),own id=some hd->∃ hd',bo id=some hd'/\hd.like hd')
  (bs:∀ id hd b,bo id=some hd->b∈hd.bs->(∃ E hd',own E=some hd'/\b∈hd'.bs)\/w.heap.size<=b)
  (block:∀ b,b<w.heap.size->(¬ ∃ id hd,own id=some hd/\b∈hd.bs)->w'.heap[b]? =w.heap[b]?) (size:w.heap.size<=w'.heap.size)
  (os:w'.os=w.os) (tape:w'.tape=w.tape) (output:w'.output=w.output):Fr { w:=w,own:=own} bo w':=
 ⟨ids,λid hd b h1 h2 U=>by
  rcases bs id hd b h1 h2 with h|h;exact U.2 h;have:=U.1;grind,os,tape,output,size,λk O=>block k O.1 O.2⟩
def Jf{b o:Nat}(h:w.cell? ⟨b,o,none⟩=some v):b<w.heap.size:=World.block_lt_of_cell? w _ h
theorem uh{b:Nat}(h:w'.heap[b]? =w.heap[b]?)(o:Nat):w'.cell? ⟨b,o,none⟩=w.cell? ⟨b,o,none⟩:=by
 grind [World.cell?]
theorem rG{b:Nat}{o:Obj}(h:w.heap[b]? =some o):b<w.heap.size:=by
 grind
structure apk (F:Nat->Prop)(own:Own)(w:World)(F':Nat->Prop)(bo:Own)(w':World):Prop where
 ids:∀ (id:Nat) (hd:Hd),own id=some hd->∃ hd',bo id=some hd'/\hd.like hd'
 keep:∀ b,b<w.heap.size->¬df F own b->¬df F' bo b/\w'.heap[b]? =w.heap[b]?
theorem apx.apz{own:Own}(g:apx F own w bo w'):apk F own w F bo w':=⟨g.ids,g.keep⟩
theorem Rel.carry{F':Nat->Prop}{own:Own}(g:apk F own w F' bo w'){s:SV}(h:Rel F own w s v):Rel F' bo w' s v:=by
 induction h with
 |any v=>exact .any v|v x=>exact .v x
 |ptr h1 h2=>obtain⟨hd',e,l⟩:=g.ids _ _ h1;exact .ptr e (l.1.trans h2)
 |os h1 h2=>obtain⟨hd',e,l⟩:=g.ids _ _ h1;rw[<-l.2.1]at h2 |-;exact .os e h2
 |e0=>exact .e0|rc _ O=>exact .rc O
 |rp h1 h2 V=>obtain⟨hd',e,l⟩:=g.ids _ _ h1;exact .rp e (l.2.1.trans h2) V
 |gr h1 h2 V=>obtain⟨hd',e,l⟩:=g.ids _ _ h1;exact .gr e (by rw[l.2.2];exact h2) V
 |gp h1 h2 V=>obtain⟨hd',e,l⟩:=g.ids _ _ h1;exact .gp e (by rw[l.2.2];exact h2) V
 |vw h1 h2 V=>obtain⟨hd',e,l⟩:=g.ids _ _ h1;exact .vw e (by rw[l.2.1];exact h2) V
 |ep c h1 _ O=>
  refine .ep c (λj s hj=>?_) O;obtain⟨hn,hc⟩:=h1 j s hj;obtain⟨U,hk⟩:=g.keep _ (Jf hc) hn;grind [uh]
 |rs c E W h1 _ O=>
  refine .rs c E W (λi x hi j s hj=>?_) O;obtain⟨hn,hc⟩:=h1 i x hi j s hj;obtain⟨U,hk⟩:=g.keep _ (Jf hc) hn;grind [uh]
 |rs0=>exact .rs0
 |ls c hz E h1 _ O=>
  refine .ls c hz E (λj s hj=>?_) O;obtain⟨hn,hc⟩:=h1 j s hj;obtain⟨U,hk⟩:=g.keep _ (Jf hc) hn;grind [uh]
 |rm ck cv es clock E h1 h2 V _ _ X Y=>
  obtain⟨U,hk⟩:=g.keep _ (rG h1) E;exact .rm ck cv es clock U (by grind) h2 V X Y
 |rm0=>exact .rm0|agg E _ O=>exact .agg E O|tup E _ O=>exact .tup E O|fn E W _ _ X Y=>exact .fn E W X Y
theorem Rel.mono{own:Own}(g:apx F own w bo w'){s:SV}(h:Rel F own w s v):Rel F bo w' s v:=h.carry g.apz
theorem apx.refl (F:Nat->Prop)(own:Own)(w:World):apx F own w own w:=⟨λ_ hd h=>⟨hd,h,.refl _⟩,λ_ _ h=>⟨h,rfl⟩,alw _⟩
theorem qA (w:World)(o:Obj)(b:Nat)(h:b<w.heap.size):(w.alloc o).heap[b]? =w.heap[b]?:=Below.heap_alloc w o b h
theorem kC (w:World)(o:Obj):(w.alloc o).heap[w.heap.size]? =some o:=by show(w.heap.push o)[w.heap.size]? =_;simp
theorem NM (w:World)(o:Obj):(w.alloc o).heap.size=w.heap.size+1:=by simp_all
theorem apx.below(F:Nat->Prop)(own:Own)(h:Below w.heap.size w w'):apx F own w own w':=
 ⟨λ_ hd h=>⟨hd,h,.refl _⟩,λb O E=>⟨E,h.block b O⟩,h.size⟩
def qB (w:World)(o:Obj):Below w.heap.size w (w.alloc o):=(Below.refl _ _).alloc (alw _) o
theorem gH {α:Type}:∀ (l:List α) (i:Nat),nth l i=l[i]?
 | [],i=>by simp[nth]
 |x::r,0=>by simp[nth]
 |x::r,i+1=>by simp[nth,gH r i]
theorem qC:∀ l:List SV,sz l=l.length
 | [] =>rfl
 |x::r=>by simp[sz,qC r]
theorem Jg:∀ (n:Nat) (l:List SV),cut n l=l.take n
 |0,l=>by simp[cut]
 |n+1,[] =>by simp[cut]
 |n+1,x::r=>by simp[cut,Jg n r]
theorem Di:∀ (n:Nat) (l:List SV),K8 n l=l.drop n
 |0,l=>by simp[K8]
 |n+1,[] =>by simp[K8]
 |n+1,x::r=>by simp[K8,Di n r]
theorem zz:∀ (l:List SV) (i:Nat) (s:SV),DG l i s=l.set i s
 | [],i,s=>by simp[DG]
 |x::r,0,s=>by simp[DG]
 |x::r,i+1,s=>by simp[DG,zz r i s]
theorem nC:∀ (vs cells:List SV) (off:Nat),(gS cells off vs).length=cells.length
 | [],cells,off=>rfl
 |x::xs,cells,off=>by simp[gS,nC xs,zz]
theorem oq:∀ (vs cells:List SV) (off:Nat),off+vs.length<=cells.length->∀ j,(gS cells off vs)[j]? =if off<=j/\j<off+vs.length then vs[j - off]? else cells[j]?
 | [],cells,off,_,j=>by simp_all [gS,if_neg]
 |x::xs,cells,off,h,j=>by
  simp only[aly]at h;rw[gS,oq xs _ _ (by simp[zz];omega),zz];grind
theorem uY:∀ (h:List Ob) (id:Nat),aq h id=(h[id]?).getD .dead
 | [],id=>by simp[aq]
 |o::r,0=>by simp[aq]
 |o::r,n+1=>by simp[aq,uY r n]
theorem dF:∀ (h:List Ob) (id:Nat) (x:Ob) (j:Nat),aq (cF h id x) j=if id=j then x else aq h j
 | [],0,x,j=>by cases j <;>simp[cF,aq]
 | [],n+1,x,j=>by
  cases j with
  |zero=>simp[cF,aq]|succ j=>simp only[cF,aq,dF [] n x j];by_cases h:n=j <;>simp[h]
 |o::r,0,x,j=>by cases j <;>simp[cF,aq]
 |o::r,n+1,x,j=>by
  cases j with
  |zero=>simp[cF,aq]|succ j=>simp only[cF,aq,dF r n x j];by_cases h:n=j <;>simp[h]
theorem cB:∀ (h:List Ob) (id:Nat) (x:Ob),(cF h id x).length=if id<h.length then h.length else id+1
 | [],0,x=>by simp[cF]
 | [],n+1,x=>by simp[cF,cB [] n x]
 |o::r,0,x=>by simp[cF]
 |o::r,n+1,x=>by simp only[cF,aly,cB r n x];by_cases h:n<r.length <;>simp[h] <;>omega
theorem mT {h:List Ob}{id:Nat}(hi:h.length<=id):aq h id=.dead:=by rw[uY,List.getElem?_eq_none hi];rfl
theorem sq (h l:List Ob)(id:Nat):aq (h++l) id=if id<h.length then aq h id else aq l (id - h.length):=by
 grind [uY]
theorem D0{own:Own}{s:SV}{l:List SV}(h:Rel F own w s v)(E:pf s=some l):
  v.cells.size=l.length/\∀ (j:Nat) (x:SV),l[j]? =some x->Rel F own w x (v.cells.getD j undef):=by
 have one:∀ {s:SV} {v:Value},Rel F own w s v->v.cells= #[v]->pf s=some [s]->pf s=some l->v.cells.size=l.length/\∀ (j:Nat) (x:SV),l[j]? =some x->Rel F own w x (v.cells.getD j undef):=by
  intro s v h hc h1 h2;rw[h1]at h2;simp only[alx]at h2;subst h2;rw[hc];refine⟨rfl,λj x X=>?_⟩;cases j <;>simp_all
 cases h with
 |any=>simp[pf]at E
 |v=>
  cases v <;>first|exact one (.v _) rfl rfl E|simp[pf]at E
  subst E;rename_i cs;refine⟨by simp[Value.cells],λj y X=>?_⟩;simp at X;obtain⟨z,W,rfl⟩:=X;simp[Value.cells,W];exact .v _
 |ptr h1 h2=>exact one (.ptr h1 h2) rfl rfl E|os h1 h2=>exact one (.os h1 h2) (DZ h2) rfl E|e0=>exact one .e0 rfl rfl E|rc h=>exact one (.rc h) rfl rfl E|rp h1 h2 O=>exact one (.rp h1 h2 O) rfl rfl E|gr h1 h2 O=>exact one (.gr h1 h2 O) (DZ O) rfl E|gp h1 h2 O=>exact one (.gp h1 h2 O) rfl rfl E|vw h1 h2 O=>exact one (.vw h1 h2 O) rfl rfl E|ep c h1 h2=>exact one (.ep c h1 h2) rfl rfl E|rs c U V h1 h2=>exact one (.rs c U V h1 h2) rfl rfl E|rs0=>exact one .rs0 rfl rfl E|ls c W U h1 h2=>exact one (.ls c W U h1 h2) rfl rfl E|rm ck Y es clock U h1 h2 O h4 h5=>exact one (.rm ck Y es clock U h1 h2 O h4 h5) rfl rfl E|rm0=>exact one .rm0 rfl rfl E|agg U h1=>simp[pf]at E;subst E;exact⟨U,h1⟩|tup=>simp[pf]at E|fn U V h1 h2=>exact one (.fn U V h1 h2) rfl rfl E
end Go.Sx
end
