/- Part of the proof that the law RefuseEither returns true and leaves its arguments as they were, for all arguments of bulk at most 1048576 (the Upto form). -/
import Derived.Calls
import Derived.Orders
import Derived.Below
import Derived.KernelRfl
import Derived.Laws.Sem
import Derived.Laws.World
import Derived.Laws.Cells
set_option linter.all false
set_option maxHeartbeats 4000000
set_option maxRecDepth 100000
namespace Go.Sx
def akZ:=@Bool.and_eq_true
def ak0:=@Nat.eq_of_beq_eq_true
def ak1:=@Int.toNat_natCast
def ak2:=@Nat.le_refl
def ak3:=@Option.some.injEq
def ak4:=@List.getElem?_eq_some_iff
def ak5:=@List.length_cons
def ak6:=@List.mem_cons_of_mem
def ak7:=@Bool.false_eq_true
def ak8:=@Nat.zero_add
def ak9:=@List.length_append
def ak_:=@List.nil_append
def ala:=@List.mem_cons
def alb:=@List.getElem?_eq_getElem
def alc:=@List.mem_cons_self
def ald:=@Nat.le_trans
def ale:=@Nat.lt_of_lt_of_le
def alf:=@List.mem_of_getElem?
def alg:=@Nat.mul_le_mul_right
def alh:=@Result.andThen_ok
def ali:=@List.append_nil
def alj:=@Bool.not_true
def alk:=@List.eq_nil_of_length_eq_zero
def alm:=@Bool.not_eq_true'
def aln:=@List.pairwise_append
def alo:=@List.length_nil
def alp:=@List.flatMap_cons
def alq:=@Array.getElem?_append_left
def alr:=@List.cons_append
def als:=@Bool.not_false
def alt:=@List.map_cons
def alu:=@List.mem_append
def alv:=@Sem.run_bind
def alw:=@Array.getD_eq_getD_getElem?
def alx:=@Bool.or_eq_true
def aly:=@List.pairwise_iff_getElem
def alz:=@List.mem_singleton
def alA:=@List.all_eq_true
def alB:=@Nat.zero_le
def alC:=@Bool.or_eq_false_iff
def alD:=@Classical.byContradiction
def alE:=@List.mem_iff_getElem
def alF:=@List.take_succ_eq_append_getElem
def alG:=@List.append_assoc
def alH:=@List.nodup_cons
def alI:=@List.getElem_of_mem
def alJ:=@Int.le_refl
def alK:=@Int.mul_le_mul_of_nonneg_right
def alL:=@List.pairwise_cons
def alM:=@List.map_nil
def alN:=@List.pairwise_singleton
def alO:=@List.length_pos_iff
def alP:=@Sum.inr.injEq
def alQ:=@Int.toNat_of_nonneg
def alR:=@List.getElem_mem
def alS:=@List.getElem?_of_mem
def alT:=@List.length_filter_le
def alU:=@List.take_append_drop
def alV:=@List.not_mem_nil
def alW:=@List.pairwise_mergeSort
def alX:=@List.mem_of_mem_take
def alY:=@List.length_map
def alZ:=@Bool.eq_iff_iff
def al0:=@List.length_take
def al1:=@List.getElem?_map
def al2:=@List.getElem?_append
def al3:=@List.mem_map
def al4:=@List.any_eq_true
def al5:=@List.mergeSort_perm
def al6:=@Value.slice.injEq
def al7:=@Bool.and_eq_false_iff
def al8:=@Nat.lt_irrefl
def al9:=@List.Perm.eq_of_pairwise
def al_:=@Nat.add_zero
def ama:=@Nat.lt_or_ge
def amc:=@Nat.le_mul_of_pos_right
def amd:=@List.length_drop
def ame:=@List.flatMap_nil
def amf:=@Bool.cond_eq_ite
def amg:=@Bool.true_and
def amh:=@Array.getElem?_eq_some_iff
def ami:=@Option.map_eq_some_iff
def amj:=@Int.tmod_eq_emod_of_nonneg
def amk:=@List.mem_flatMap
def aml:=@Bool.false_or
def amm:=@List.nodup_append
def amn:=@Option.map_some
def amo:=@List.map_append
def amp:=@Sem.run_pure
def amq:=@Array.getElem?_append_right
def amr:=@Int.le_ediv_iff_mul_le
def ams:=@Addr.mk.injEq
def amt:=@Nat.add_assoc
def amu:=@Bool.or_false
def amv:=@List.range'_succ
def amw:=@List.take_length
def amx:=@List.nodup_nil
def amy:=@List.mem_range
def amz:=@Bool.not_eq_false'
def amA:=@Array.getElem?_eq_getElem
def amB:=@List.cons.injEq
def amC:=@List.mem_filter
def amD:=@List.length_range
def amE:=@List.length_filterMap_le
def amF:=@List.mem_map_of_mem
def amG:=@Option.bind_some
def amH:=@Bool.not_eq_true
def amI:=@Int.ediv_le_ediv
def amJ:=@Int.mul_le_mul_of_nonneg_left
def amK:=@Int.emod_lt_of_pos
def amL:=@Array.getElem?_toList
def amM:=@List.mem_append_right
def amN:=@List.eq_nil_or_concat
def amO:=@List.concat_eq_append
def amP:=@Int.mul_ediv_add_emod
def amQ:=@List.getElem?_set
def amR:=@List.size_toArray
def amS:=@List.pairwise_map
def amT:=@Nat.mul_one
def amU:=@Int.toNat_zero
def amV:=@List.getElem?_append_right
def amW:=@Int.mul_nonneg
def amX:=@Int.le_of_mul_le_mul_right
def amY:=@Nat.sub_self
def amZ:=@List.getElem?_append_left
def am0:=@List.IsPrefix.trans
def am1:=@Option.isSome_iff_exists
def am2:=@Bool.eq_false_or_eq_true
def am3:=@Int.emod_nonneg
def am4:=@List.length_set
def am5:=@Nat.mod_lt
def am6:=@Int.natCast_nonneg
def am7:=@Int.lt_tmod_of_pos
def am8:=@List.filter_filter
def am9:=@List.getElem?_cons_succ
def am_:=@List.pairwise_filterMap
def ana:=@List.take_zero
def anb:=@List.getElem?_toArray
def anc:=@List.filterMap_append
def ane:=@Array.eq_empty_of_size_eq_zero
def anf:=@Option.getD_some
def ang:=@List.eq_nil_iff_forall_not_mem
def anh:=@Int.ediv_le_self
def ani:=@List.mem_append_left
def anj:=@Array.getElem?_setIfInBounds
def ank:=@Nat.div_le_self
def anl:=@List.replicate_succ
def anm:=@List.filter_eq_self
def ann:=@List.flatMap_append
def ano:=@List.getD_cons_zero
def anp:=@Nat.succ_mul
def anq:=@Int.ofNat_zero
def anr:=@List.getElem?_drop
def ans:=@Nat.add_sub_cancel
def ant:=@Nat.mul_le_mul
def anu:=@List.filter_append
def anv:=@Bool.false_and
def anw:=@List.getD_eq_getElem?_getD
def anx:=@Nat.add_mul
def anz:=@Int.lt_trichotomy
def anA:=@List.reverse_cons
def anB:=@Bool.and_true
def anC:=@Nat.gcd_pos_of_pos_right
def anD:=@Int.mul_tdiv_cancel_left
def anE:=@List.filterMap_cons_some
def anF:=@List.filterMap_cons_none
def anG:=@Nat.mod_eq_of_lt
def anH:=@List.getElem?_cons_zero
def anI:=@Option.bind_eq_some_iff
def anJ:=@List.flatMap_eq_nil_iff
def anK:=@Int.eq_ofNat_of_zero_le
def anL:=@List.drop_length
def anM:=@List.ext_getElem
def anN:=@List.filter_cons
def anO:=@Int.tmod_eq_emod
def anP:=@Nat.add_sub_cancel_left
def anQ:=@List.drop_eq_nil_of_le
def anR:=@List.getElem?_eraseIdx
def anS:=@Bool.true_or
def anT:=@Int.le_trans
def anU:=@List.length_eq_one_iff
def anV:=@Classical.em
def anW:=@List.foldl_cons
def anX:=@List.range_succ
def anY:=@World.cell?_alloc_new
def anZ:=@Array.getElem?_modify
def an0:=@List.length_mergeSort
def an1:=@List.pairwise_flatMap
def an2:=@List.pairwise_reverse
def an3:=@Array.getElem_of_mem
def an4:=@List.drop_drop
def an5:=@Int.natAbs_mul
def an6:=@List.mem_of_mem_drop
def an7:=@Iff.trans
def an8:=@Prod.mk.injEq
def an9:=@Int.lt_irrefl
def an_:=@List.sum_cons
def aoa:=@Array.foldl_toList
def aob:=@Nat.div_mul_cancel
def aoc:=@Nat.eq_or_lt_of_le
def aod:=@Int.add_emod_right
def aoe:=@Int.tmod_lt_of_pos
def aof:=@List.mem_filterMap
def aog:=@Int.cast_ofNat_Int
def aoi:=@Nat.beq_refl
def aoj:=@Bool.or_true
def aon:=@Array.ext
def aoo:=@Nat.mod_one
def aop:=@Nat.sub_mul
def aoq:=@Nat.le_succ
def aor:=@Iff.rfl
end Go.Sx
section
namespace Go.Sx
open Go.RowKit
structure Range where
 lo:Int
 hi:Int
 deriving Inhabited,DecidableEq
structure W1 where
 n:Int
 d:Int
 deriving Inhabited,DecidableEq
structure Reach where
 name:ByteArray
 up:Int
 delay:Int
 cap:Int
 ao7:Int
 aoI:Int
 apd:Range
 aoT:W1×W1
 deriving Inhabited,DecidableEq
structure apE where
 name:ByteArray
 reach:Int
 ap6:Int
 apa:Int
 deriving Inhabited,DecidableEq
structure ap1 where
 name:ByteArray
 need:Int
 deriving Inhabited,DecidableEq
structure aoU where
 name:ByteArray
 kind:Int
 gl:Int
 reach:Int
 aoA:Int
 dd:Int
 since:Int
 to:Int
 every:Int
 length:Int
 deriving Inhabited,DecidableEq
structure ap8 where
 name:ByteArray
 gl:Int
 reach:Int
 due:Int
 deriving Inhabited,DecidableEq
structure ap7 where
 gl:Int
 reach:Int
 d:Int
 kernel:List Int
 deriving Inhabited,DecidableEq
structure Part where
 gl:Int
 share:W1
 deriving Inhabited,DecidableEq
structure bn where
 no:Int
 kind:Int
 right:Int
 since:Int
 to:Int
 parts:List Part
 of_:Int
 at_:Int
 known:Int
 deriving Inhabited,DecidableEq
structure M1 where
 reach:Int
 hour:Int
 dd:Int
 wanted:Int
 deriving Inhabited,DecidableEq
structure Claim where
 right:Int
 gl:Int
 hour:Int
 dd:Int
 aoA:Int
 deriving Inhabited,DecidableEq
structure Order where
 hour:Int
 index:Int
 dd:Int
 aol:Bool
 deriving Inhabited,DecidableEq
structure Y2 where
 Q1:Claim
 reach:Int
 deriving Inhabited,DecidableEq
structure T1 where
 kind:Int
 hour:Int
 index:Int
 dd:Int
 limit:Int
 deriving Inhabited,DecidableEq
structure aou where
 gl:Int
 reach:Int
 deriving Inhabited,DecidableEq
structure aoG where
 hour:Int
 index:Int
 aol:Bool
 deriving Inhabited,DecidableEq
structure aox where
 right:Int
 gl:Int
 dd:Int
 aoA:Int
 deriving Inhabited,DecidableEq
structure r5 where
 index:Int
 hour:Int
 deriving Inhabited,DecidableEq
structure A1 where
 right:Int
 gl:Int
 deriving Inhabited,DecidableEq
structure apK where
 cap:Int
 start:Int
 deriving Inhabited,DecidableEq
structure ah where
 name:ByteArray
 hours:Int
 aoE:apK
 reaches:List Reach
 zs:List apE
 aoK:List ap1
 ai:List aoU
 aoF:List ap8
 apf:List ap7
 deriving Inhabited,DecidableEq
structure aoz where
 ai:List Int
 kind:Int
 reach:Int
 hour:Int
 Y1:List M1
 deriving Inhabited,DecidableEq
structure C1 where
 d:ah
 c:List Claim
 deriving Inhabited,DecidableEq
structure ao4 where
 apD:List (Int×Int)
 owned:List (aou×Bool)
 apy:List (aou×Bool)
 deriving Inhabited,DecidableEq
structure api where
 d:ah
 l:List Order
 dd:List (aoG×Int)
 arH:List (List Int)
 drawn:List (List Int)
 deriving Inhabited,DecidableEq
inductive Tag where
 |reach|gl|apa|right|apn|int|aps|part|B1|aow|Q1|order|aok|aom|fault|bool|ints|X1|aoC|fnc|holding|bo|pq|aoE|al|refusal|range|ratio|ao9|G2|aoP|aoN|str
 deriving DecidableEq
abbrev Tag.T:Tag->Type
 | .reach=>Reach| .gl=>apE| .apa=>ap1| .right=>aoU| .apn=>ap8| .int=>Int| .aps=>ap7| .part=>Part| .B1=>bn| .aow=>M1| .Q1=>Claim| .order=>Order| .aok=>Int×Int| .aom=>Y2| .fault=>T1| .bool=>Bool| .ints=>List Int| .X1=>aou| .aoC=>aoG| .fnc=>Option Nat| .holding=>aox| .bo=>r5| .pq=>A1| .aoE=>apK| .al=>ah| .refusal=>aoz| .range=>Range| .ratio=>W1| .ao9=>W1×W1| .G2=>C1| .aoP=>ao4| .aoN=>api| .str=>ByteArray
def zK:Tag->Nat
 | .reach=>0| .gl=>1| .apa=>2| .right=>3| .apn=>4| .int=>5| .aps=>6| .part=>7| .B1=>8| .aow=>9| .Q1=>10| .order=>11| .aok=>12| .aom=>13| .fault=>14| .bool=>15| .ints=>16| .X1=>17| .aoC=>18| .fnc=>19| .holding=>20| .bo=>21| .pq=>22| .aoE=>23| .al=>24| .refusal=>25| .range=>26| .ratio=>27| .ao9=>28| .G2=>29| .aoP=>30| .aoN=>31| .str=>32
def aoA:Tag->Nat
 | .reach=>0| .gl=>0| .apa=>0| .right=>0| .apn=>0| .int=>0| .aps=>1| .part=>0| .B1=>1| .aow=>0| .Q1=>0| .order=>0| .aok=>0| .aom=>0| .fault=>0| .bool=>0| .ints=>1| .X1=>0| .aoC=>0| .fnc=>1| .holding=>0| .bo=>0| .pq=>0| .aoE=>0| .al=>2| .refusal=>1| .range=>0| .ratio=>0| .ao9=>0| .G2=>2| .aoP=>1| .aoN=>2| .str=>0
def Tag.ofName:String->Option Tag
 | "api.Reach" =>some .reach
 | "api.Farm" =>some .gl
 | "api.Crop" =>some .apa
 | "api.Right" =>some .right
 | "api.Duty" =>some .apn
 | "api.Errno" =>some .int
 | "expand.refused" =>some .int
 | "int" =>some .int
 | "int64" =>some .int
 | "api.Well" =>some .aps
 | "api.Part" =>some .part
 | "api.Deed" =>some .B1
 | "api.Parcel" =>some .aow
 | "api.Claim" =>some .Q1
 | "api.Order" =>some .order
 | "[2]int" =>some .aok
 | "refuse.place" =>some .aok
 | "claims.found" =>some .aom
 | "api.Fault" =>some .fault
 | "bool" =>some .bool
 | "[]int" =>some .ints
 | "claims.use" =>some .X1
 | "certify.place" =>some .aoC
 | "func(api.Order) int" =>some .fnc
 | "func(register.book, api.Deed, int)" =>some .fnc
 | "iter.Seq[acequia/api.Fault]" =>some .fnc
 | "api.Holding" =>some .holding
 | "timetable.slot" =>some .bo
 | "register.title" =>some .pq
 | "api.Tank" =>some .aoE
 | "api.District" =>some .al
 | "api.Refusal" =>some .refusal
 | "api.Range" =>some .range
 | "api.Ratio" =>some .ratio
 | "[2]api.Ratio" =>some .ao9
 | "refuse.scene" =>some .G2
 | "claims.law" =>some .aoP
 | "certify.table" =>some .aoN
 | "string" =>some .str
 |_=>none
instance instDecTag:(k:Tag)->DecidableEq k.T
 | .reach=>inferInstanceAs (DecidableEq (Reach))| .gl=>inferInstanceAs (DecidableEq (apE))| .apa=>inferInstanceAs (DecidableEq (ap1))| .right=>inferInstanceAs (DecidableEq (aoU))| .apn=>inferInstanceAs (DecidableEq (ap8))| .int=>inferInstanceAs (DecidableEq (Int))| .aps=>inferInstanceAs (DecidableEq (ap7))| .part=>inferInstanceAs (DecidableEq (Part))| .B1=>inferInstanceAs (DecidableEq (bn))| .aow=>inferInstanceAs (DecidableEq (M1))| .Q1=>inferInstanceAs (DecidableEq (Claim))| .order=>inferInstanceAs (DecidableEq (Order))| .aok=>inferInstanceAs (DecidableEq (Int×Int))| .aom=>inferInstanceAs (DecidableEq (Y2))| .fault=>inferInstanceAs (DecidableEq (T1))| .bool=>inferInstanceAs (DecidableEq (Bool))| .ints=>inferInstanceAs (DecidableEq (List Int))| .X1=>inferInstanceAs (DecidableEq (aou))| .aoC=>inferInstanceAs (DecidableEq (aoG))| .fnc=>inferInstanceAs (DecidableEq (Option Nat))| .holding=>inferInstanceAs (DecidableEq (aox))| .bo=>inferInstanceAs (DecidableEq (r5))| .pq=>inferInstanceAs (DecidableEq (A1))| .aoE=>inferInstanceAs (DecidableEq (apK))| .al=>inferInstanceAs (DecidableEq (ah))| .refusal=>inferInstanceAs (DecidableEq (aoz))| .range=>inferInstanceAs (DecidableEq (Range))| .ratio=>inferInstanceAs (DecidableEq (W1))| .ao9=>inferInstanceAs (DecidableEq (W1×W1))| .G2=>inferInstanceAs (DecidableEq (C1))| .aoP=>inferInstanceAs (DecidableEq (ao4))| .aoN=>inferInstanceAs (DecidableEq (api))| .str=>inferInstanceAs (DecidableEq (ByteArray))
structure Res where
 yv:Value
 n:Nat
 R:(Nat->Prop)->List Nat->World->Prop
 loc:∀ (F F':Nat->Prop) (bs:List Nat) (w w':World),R F bs w->w.heap.size<=w'.heap.size->(∀ b,b<w.heap.size->¬F b->w'.heap[b]? =w.heap[b]?)->(∀ b,b<w.heap.size->F' b->F b)->R F' bs w'
instance:Inhabited Res:=⟨⟨.nilFunc,0,λ_ _ _=>True,λ_ _ _ _ _ _ _ _ _=>trivial⟩⟩
inductive SV where
 |any
 |v (x:Value)
 |ptr (id off:Nat)
 |os (id:Nat)
 |e0
 |rp (sz id:Nat) (i:Int) (off:Nat)
 |gr (id:Nat) (i:Int)
 |gp (sz id:Nat) (i j:Int) (off:Nat)
 |ep (cells:List SV) (off:Nat)
 |rs (k:Tag) (l:List k.T)
 |ls (s:Nat) (l:List SV)
 |rm (kk vk:Tag) (l:List (kk.T×vk.T))
 |agg (l:List SV)
 |tup (l:List SV)
 |fn (f:FuncId) (first caps:List SV)
 |nw (k:Tag) (l:List k.T)
 |nm (kk vk:Tag) (l:List (kk.T×vk.T))
 |ng (k:Tag) (l:List (List k.T))
 |gd (j:Nat) (want:Bool) (s:SV)
 |vw (sz id:Nat) (lo hi:Int)
 |rc (k:Tag) (l:List k.T)
 deriving Inhabited
abbrev SV.i (n:Int):SV:=.v (.int .i64 n)
abbrev SV.b (x:Bool):SV:=.v (.bool x)
abbrev SV.s (x:ByteArray):SV:=.v (.string x)
def fnV:Option Nat->SV|some f=>.fn f [] [] |none=>.v .nilFunc
def cellsOf:(k:Tag)->k.T->List SV
 | .reach,x=>[.v (.string x.name),.v (.int .i64 x.up),.v (.int .i64 x.delay),.v (.int .i64 x.cap),.v (.int .i64 x.ao7),.v (.int .i64 x.aoI),.v (.int .i64 x.apd.lo),.v (.int .i64 x.apd.hi),.v (.int .i64 x.aoT.1.n),.v (.int .i64 x.aoT.1.d),.v (.int .i64 x.aoT.2.n),.v (.int .i64 x.aoT.2.d)]| .gl,x=>[.v (.string x.name),.v (.int .i64 x.reach),.v (.int .i64 x.ap6),.v (.int .i64 x.apa)]| .apa,x=>[.v (.string x.name),.v (.int .i64 x.need)]| .right,x=>[.v (.string x.name),.v (.int .i64 x.kind),.v (.int .i64 x.gl),.v (.int .i64 x.reach),.v (.int .i64 x.aoA),.v (.int .i64 x.dd),.v (.int .i64 x.since),.v (.int .i64 x.to),.v (.int .i64 x.every),.v (.int .i64 x.length)]| .apn,x=>[.v (.string x.name),.v (.int .i64 x.gl),.v (.int .i64 x.reach),.v (.int .i64 x.due)]| .int,x=>[.v (.int .i64 x)]| .aps,x=>[.v (.int .i64 x.gl),.v (.int .i64 x.reach),.v (.int .i64 x.d),.rs .int x.kernel]| .part,x=>[.v (.int .i64 x.gl),.v (.int .i64 x.share.n),.v (.int .i64 x.share.d)]| .B1,x=>[.v (.int .i64 x.no),.v (.int .i64 x.kind),.v (.int .i64 x.right),.v (.int .i64 x.since),.v (.int .i64 x.to),.rs .part x.parts,.v (.int .i64 x.of_),.v (.int .i64 x.at_),.v (.int .i64 x.known)]| .aow,x=>[.v (.int .i64 x.reach),.v (.int .i64 x.hour),.v (.int .i64 x.dd),.v (.int .i64 x.wanted)]| .Q1,x=>[.v (.int .i64 x.right),.v (.int .i64 x.gl),.v (.int .i64 x.hour),.v (.int .i64 x.dd),.v (.int .i64 x.aoA)]| .order,x=>[.v (.int .i64 x.hour),.v (.int .i64 x.index),.v (.int .i64 x.dd),.v (.bool x.aol)]| .aok,x=>[.v (.int .i64 x.1),.v (.int .i64 x.2)]| .aom,x=>[.v (.int .i64 x.Q1.right),.v (.int .i64 x.Q1.gl),.v (.int .i64 x.Q1.hour),.v (.int .i64 x.Q1.dd),.v (.int .i64 x.Q1.aoA),.v (.int .i64 x.reach)]| .fault,x=>[.v (.int .i64 x.kind),.v (.int .i64 x.hour),.v (.int .i64 x.index),.v (.int .i64 x.dd),.v (.int .i64 x.limit)]| .bool,x=>[.v (.bool x)]| .ints,x=>[.rs .int x]| .X1,x=>[.v (.int .i64 x.gl),.v (.int .i64 x.reach)]| .aoC,x=>[.v (.int .i64 x.hour),.v (.int .i64 x.index),.v (.bool x.aol)]| .fnc,x=>[fnV x]| .holding,x=>[.v (.int .i64 x.right),.v (.int .i64 x.gl),.v (.int .i64 x.dd),.v (.int .i64 x.aoA)]| .bo,x=>[.v (.int .i64 x.index),.v (.int .i64 x.hour)]| .pq,x=>[.v (.int .i64 x.right),.v (.int .i64 x.gl)]| .aoE,x=>[.v (.int .i64 x.cap),.v (.int .i64 x.start)]| .al,x=>[.v (.string x.name),.v (.int .i64 x.hours),.v (.int .i64 x.aoE.cap),.v (.int .i64 x.aoE.start),.rs .reach x.reaches,.rs .gl x.zs,.rs .apa x.aoK,.rs .right x.ai,.rs .apn x.aoF,.rs .aps x.apf]| .refusal,x=>[.rs .int x.ai,.v (.int .i64 x.kind),.v (.int .i64 x.reach),.v (.int .i64 x.hour),.rs .aow x.Y1]| .range,x=>[.v (.int .i64 x.lo),.v (.int .i64 x.hi)]| .ratio,x=>[.v (.int .i64 x.n),.v (.int .i64 x.d)]| .ao9,x=>[.v (.int .i64 x.1.n),.v (.int .i64 x.1.d),.v (.int .i64 x.2.n),.v (.int .i64 x.2.d)]| .G2,x=>[.v (.string x.d.name),.v (.int .i64 x.d.hours),.v (.int .i64 x.d.aoE.cap),.v (.int .i64 x.d.aoE.start),.rs .reach x.d.reaches,.rs .gl x.d.zs,.rs .apa x.d.aoK,.rs .right x.d.ai,.rs .apn x.d.aoF,.rs .aps x.d.apf,.rs .Q1 x.c]| .aoP,x=>[.rm .int .int x.apD,.rm .X1 .bool x.owned,.rm .X1 .bool x.apy]| .aoN,x=>[.v (.string x.d.name),.v (.int .i64 x.d.hours),.v (.int .i64 x.d.aoE.cap),.v (.int .i64 x.d.aoE.start),.rs .reach x.d.reaches,.rs .gl x.d.zs,.rs .apa x.d.aoK,.rs .right x.d.ai,.rs .apn x.d.aoF,.rs .aps x.d.apf,.rs .order x.l,.rm .aoC .int x.dd,.rs .ints x.arH,.rs .ints x.drawn]| .str,x=>[.v (.string x)]
def aa:Tag->Nat
 | .reach=>12| .gl=>4| .apa=>2| .right=>10| .apn=>4| .int=>1| .aps=>4| .part=>3| .B1=>9| .aow=>4| .Q1=>5| .order=>4| .aok=>2| .aom=>6| .fault=>5| .bool=>1| .ints=>1| .X1=>2| .aoC=>3| .fnc=>1| .holding=>4| .bo=>2| .pq=>2| .aoE=>2| .al=>10| .refusal=>5| .range=>2| .ratio=>2| .ao9=>4| .G2=>11| .aoP=>3| .aoN=>14| .str=>1
theorem bK (k:Tag)(x:k.T):(cellsOf k x).length=aa k:=by cases k <;>rfl
def eG:(k:Tag)->k.T
 | .reach=>(default:Reach)| .gl=>(default:apE)| .apa=>(default:ap1)| .right=>(default:aoU)| .apn=>(default:ap8)| .int=>(0:Int)| .aps=>(default:ap7)| .part=>(default:Part)| .B1=>(default:bn)| .aow=>(default:M1)| .Q1=>(default:Claim)| .order=>(default:Order)| .aok=>(default:Int×Int)| .aom=>(default:Y2)| .fault=>(default:T1)| .bool=>false| .ints=>(default:List Int)| .X1=>(default:aou)| .aoC=>(default:aoG)| .fnc=>(default:Option Nat)| .holding=>(default:aox)| .bo=>(default:r5)| .pq=>(default:A1)| .aoE=>(default:apK)| .al=>(default:ah)| .refusal=>(default:aoz)| .range=>(default:Range)| .ratio=>(default:W1)| .ao9=>(default:W1×W1)| .G2=>(default:C1)| .aoP=>(default:ao4)| .aoN=>(default:api)| .str=>(ByteArray.mk #[])
inductive Kd where
 |s|b|n (k:IntKind) |r (k:Tag) |m (k k2:Tag) |f
def oo:Tag->Bool
 | .reach=>true| .gl=>true| .apa=>true| .right=>true| .apn=>true| .int=>false| .aps=>true| .part=>true| .B1=>true| .aow=>true| .Q1=>true| .order=>true| .aok=>true| .aom=>true| .fault=>true| .bool=>false| .ints=>false| .X1=>true| .aoC=>true| .fnc=>false| .holding=>true| .bo=>true| .pq=>true| .aoE=>true| .al=>true| .refusal=>true| .range=>true| .ratio=>true| .ao9=>true| .G2=>true| .aoP=>true| .aoN=>true| .str=>false
def LG:(k:Tag)->List (List k.T)->SV
 | .int,l=>.rs .ints l|_,_=>.any
def et:Tag->List Kd
 | .reach=>[.s,.n .i64,.n .i64,.n .i64,.n .i64,.n .i64,.n .i64,.n .i64,.n .i64,.n .i64,.n .i64,.n .i64]| .gl=>[.s,.n .i64,.n .i64,.n .i64]| .apa=>[.s,.n .i64]| .right=>[.s,.n .i64,.n .i64,.n .i64,.n .i64,.n .i64,.n .i64,.n .i64,.n .i64,.n .i64]| .apn=>[.s,.n .i64,.n .i64,.n .i64]| .int=>[.n .i64]| .aps=>[.n .i64,.n .i64,.n .i64,.r .int]| .part=>[.n .i64,.n .i64,.n .i64]| .B1=>[.n .i64,.n .i64,.n .i64,.n .i64,.n .i64,.r .part,.n .i64,.n .i64,.n .i64]| .aow=>[.n .i64,.n .i64,.n .i64,.n .i64]| .Q1=>[.n .i64,.n .i64,.n .i64,.n .i64,.n .i64]| .order=>[.n .i64,.n .i64,.n .i64,.b]| .aok=>[.n .i64,.n .i64]| .aom=>[.n .i64,.n .i64,.n .i64,.n .i64,.n .i64,.n .i64]| .fault=>[.n .i64,.n .i64,.n .i64,.n .i64,.n .i64]| .bool=>[.b]| .ints=>[.r .int]| .X1=>[.n .i64,.n .i64]| .aoC=>[.n .i64,.n .i64,.b]| .fnc=>[.f]| .holding=>[.n .i64,.n .i64,.n .i64,.n .i64]| .bo=>[.n .i64,.n .i64]| .pq=>[.n .i64,.n .i64]| .aoE=>[.n .i64,.n .i64]| .al=>[.s,.n .i64,.n .i64,.n .i64,.r .reach,.r .gl,.r .apa,.r .right,.r .apn,.r .aps]| .refusal=>[.r .int,.n .i64,.n .i64,.n .i64,.r .aow]| .range=>[.n .i64,.n .i64]| .ratio=>[.n .i64,.n .i64]| .ao9=>[.n .i64,.n .i64,.n .i64,.n .i64]| .G2=>[.s,.n .i64,.n .i64,.n .i64,.r .reach,.r .gl,.r .apa,.r .right,.r .apn,.r .aps,.r .Q1]| .aoP=>[.m .int .int,.m .X1 .bool,.m .X1 .bool]| .aoN=>[.s,.n .i64,.n .i64,.n .i64,.r .reach,.r .gl,.r .apa,.r .right,.r .apn,.r .aps,.r .order,.m .aoC .int,.r .ints,.r .ints]| .str=>[.s]
def toI:SV->Int| .v (.int _ n) =>n|_=>0
def toB:SV->Bool| .v (.bool b) =>b|_=>false
def toS:SV->ByteArray| .v (.string s) =>s|_=>ByteArray.mk #[]
def toF:SV->Option Nat| .fn f [] [] =>some f|_=>none
def uh:SV->List Reach| .rs .reach l=>l|_=>[]
def wG:SV->List apE| .rs .gl l=>l|_=>[]
def wH:SV->List ap1| .rs .apa l=>l|_=>[]
def ui:SV->List aoU| .rs .right l=>l|_=>[]
def wI:SV->List ap8| .rs .apn l=>l|_=>[]
def zL:SV->List Int| .rs .int l=>l|_=>[]
def wJ:SV->List ap7| .rs .aps l=>l|_=>[]
def D9:SV->List Part| .rs .part l=>l|_=>[]
def LH:SV->List bn| .rs .B1 l=>l|_=>[]
def yZ:SV->List M1| .rs .aow l=>l|_=>[]
def Bc:SV->List Claim| .rs .Q1 l=>l|_=>[]
def Bd:SV->List Order| .rs .order l=>l|_=>[]
def LI:SV->List (Int×Int) | .rs .aok l=>l|_=>[]
def v_:SV->List Y2| .rs .aom l=>l|_=>[]
def Ij:SV->List T1| .rs .fault l=>l|_=>[]
def LJ:SV->List Bool| .rs .bool l=>l|_=>[]
def zM:SV->List (List Int) | .rs .ints l=>l|_=>[]
def yD:SV->List aou| .rs .X1 l=>l|_=>[]
def uj:SV->List aoG| .rs .aoC l=>l|_=>[]
def Qo:SV->List (Option Nat) | .rs .fnc l=>l|_=>[]
def CB:SV->List aox| .rs .holding l=>l|_=>[]
def tG:SV->List r5| .rs .bo l=>l|_=>[]
def tH:SV->List A1| .rs .pq l=>l|_=>[]
def LK:SV->List apK| .rs .aoE l=>l|_=>[]
def zN:SV->List ah| .rs .al l=>l|_=>[]
def CC:SV->List aoz| .rs .refusal l=>l|_=>[]
def Ik:SV->List Range| .rs .range l=>l|_=>[]
def Il:SV->List W1| .rs .ratio l=>l|_=>[]
def D_:SV->List (W1×W1) | .rs .ao9 l=>l|_=>[]
def wa:SV->List C1| .rs .G2 l=>l|_=>[]
def yE:SV->List ao4| .rs .aoP l=>l|_=>[]
def uk:SV->List api| .rs .aoN l=>l|_=>[]
def Qp:SV->List ByteArray| .rs .str l=>l|_=>[]
def lG:SV->List (aoG×Int) | .rm .aoC .int l=>l|_=>[]
def kh:SV->List (aou×Bool) | .rm .X1 .bool l=>l|_=>[]
def wK:SV->List (Int×Int) | .rm .int .int l=>l|_=>[]
def at0:List SV->Nat->SV
 | [],_=>.any|x::_,0=>x|_::r,n+1=>at0 r n
def mkE:(k:Tag)->List SV->k.T
 | .reach,l=>(⟨toS (at0 l 0),toI (at0 l 1),toI (at0 l 2),toI (at0 l 3),toI (at0 l 4),toI (at0 l 5),⟨toI (at0 l 6),toI (at0 l 7)⟩,(⟨toI (at0 l 8),toI (at0 l 9)⟩,⟨toI (at0 l 10),toI (at0 l 11)⟩)⟩:Reach)| .gl,l=>(⟨toS (at0 l 0),toI (at0 l 1),toI (at0 l 2),toI (at0 l 3)⟩:apE)| .apa,l=>(⟨toS (at0 l 0),toI (at0 l 1)⟩:ap1)| .right,l=>(⟨toS (at0 l 0),toI (at0 l 1),toI (at0 l 2),toI (at0 l 3),toI (at0 l 4),toI (at0 l 5),toI (at0 l 6),toI (at0 l 7),toI (at0 l 8),toI (at0 l 9)⟩:aoU)| .apn,l=>(⟨toS (at0 l 0),toI (at0 l 1),toI (at0 l 2),toI (at0 l 3)⟩:ap8)| .int,l=>(toI (at0 l 0):Int)| .aps,l=>(⟨toI (at0 l 0),toI (at0 l 1),toI (at0 l 2),zL (at0 l 3)⟩:ap7)| .part,l=>(⟨toI (at0 l 0),⟨toI (at0 l 1),toI (at0 l 2)⟩⟩:Part)| .B1,l=>(⟨toI (at0 l 0),toI (at0 l 1),toI (at0 l 2),toI (at0 l 3),toI (at0 l 4),D9 (at0 l 5),toI (at0 l 6),toI (at0 l 7),toI (at0 l 8)⟩:bn)| .aow,l=>(⟨toI (at0 l 0),toI (at0 l 1),toI (at0 l 2),toI (at0 l 3)⟩:M1)| .Q1,l=>(⟨toI (at0 l 0),toI (at0 l 1),toI (at0 l 2),toI (at0 l 3),toI (at0 l 4)⟩:Claim)| .order,l=>(⟨toI (at0 l 0),toI (at0 l 1),toI (at0 l 2),toB (at0 l 3)⟩:Order)| .aok,l=>((toI (at0 l 0),toI (at0 l 1)):Int×Int)| .aom,l=>(⟨⟨toI (at0 l 0),toI (at0 l 1),toI (at0 l 2),toI (at0 l 3),toI (at0 l 4)⟩,toI (at0 l 5)⟩:Y2)| .fault,l=>(⟨toI (at0 l 0),toI (at0 l 1),toI (at0 l 2),toI (at0 l 3),toI (at0 l 4)⟩:T1)| .bool,l=>(toB (at0 l 0):Bool)| .ints,l=>(zL (at0 l 0):List Int)| .X1,l=>(⟨toI (at0 l 0),toI (at0 l 1)⟩:aou)| .aoC,l=>(⟨toI (at0 l 0),toI (at0 l 1),toB (at0 l 2)⟩:aoG)| .fnc,l=>(toF (at0 l 0):Option Nat)| .holding,l=>(⟨toI (at0 l 0),toI (at0 l 1),toI (at0 l 2),toI (at0 l 3)⟩:aox)| .bo,l=>(⟨toI (at0 l 0),toI (at0 l 1)⟩:r5)| .pq,l=>(⟨toI (at0 l 0),toI (at0 l 1)⟩:A1)| .aoE,l=>(⟨toI (at0 l 0),toI (at0 l 1)⟩:apK)| .al,l=>(⟨toS (at0 l 0),toI (at0 l 1),⟨toI (at0 l 2),toI (at0 l 3)⟩,uh (at0 l 4),wG (at0 l 5),wH (at0 l 6),ui (at0 l 7),wI (at0 l 8),wJ (at0 l 9)⟩:ah)| .refusal,l=>(⟨zL (at0 l 0),toI (at0 l 1),toI (at0 l 2),toI (at0 l 3),yZ (at0 l 4)⟩:aoz)| .range,l=>(⟨toI (at0 l 0),toI (at0 l 1)⟩:Range)| .ratio,l=>(⟨toI (at0 l 0),toI (at0 l 1)⟩:W1)| .ao9,l=>((⟨toI (at0 l 0),toI (at0 l 1)⟩,⟨toI (at0 l 2),toI (at0 l 3)⟩):W1×W1)| .G2,l=>(⟨⟨toS (at0 l 0),toI (at0 l 1),⟨toI (at0 l 2),toI (at0 l 3)⟩,uh (at0 l 4),wG (at0 l 5),wH (at0 l 6),ui (at0 l 7),wI (at0 l 8),wJ (at0 l 9)⟩,Bc (at0 l 10)⟩:C1)| .aoP,l=>(⟨wK (at0 l 0),kh (at0 l 1),kh (at0 l 2)⟩:ao4)| .aoN,l=>(⟨⟨toS (at0 l 0),toI (at0 l 1),⟨toI (at0 l 2),toI (at0 l 3)⟩,uh (at0 l 4),wG (at0 l 5),wH (at0 l 6),ui (at0 l 7),wI (at0 l 8),wJ (at0 l 9)⟩,Bd (at0 l 10),lG (at0 l 11),zM (at0 l 12),zM (at0 l 13)⟩:api)| .str,l=>(toS (at0 l 0):ByteArray)
def kN:IntKind->Nat
 | .i8=>0| .i16=>1| .i32=>2| .i64=>3| .u8=>4| .u16=>5| .u32=>6| .u64=>7
def fit:Kd->SV->Bool
 | .s,.v (.string _) =>true| .b,.v (.bool _) =>true| .n k,.v (.int k' _) =>Nat.beq (kN k) (kN k')| .r k,.rs k' _=>Nat.beq (zK k) (zK k')| .m k k2,.rm k' k2' _=>Nat.beq (zK k) (zK k')&&Nat.beq (zK k2) (zK k2')| .f,.fn _ [] [] =>true| .f,.v .nilFunc=>true|_,_=>false
def ul:List Kd->List SV->Bool
 | [],[] =>true|k::ks,x::xs=>fit k x&&ul ks xs|_,_=>false
def LL:Kd->SV->SV
 | .r k,.v (.slice none 0 0) =>.rs k []| .r k,.e0=>.rs k []| .m k k2,.v (.map none) =>.rm k k2 []|_,s=>s
def yh:List Kd->List SV->List SV
 |k::ks,s::r=>LL k s::yh ks r|_,l=>l
def wb (k:Tag)(l:List SV):Option k.T:=bif ul (et k) l then some (mkE k l)else none
def oq (k:Tag)(l:List SV):Option k.T:=wb k (yh (et k) l)
inductive Pk where
 |st (k:Tag)
 |sl (k:Tag)
 |mp (k k2:Tag)
 |o
def Be:Pk->SV->SV
 | .st k,.agg l=>.agg (yh (et k) l)| .sl k,s=>LL (.r k) s| .mp k k2,s=>LL (.m k k2) s|_,s=>s
def y3:List Pk->List SV->List SV
 |p::ps,s::r=>Be p s::y3 ps r|_,l=>l
structure TI where
 size:Nat
 bytes:Nat
 agg:Bool
 zero:List SV
 fields:List (Nat×Nat×Bool)
 elem:Nat
 len:Nat
 isSlice:Bool
 apo:Bool
 tag:Option Tag
 int:Option IntKind
 iface:Bool
 eq:List Nat
 mkt:Option Tag
 mvt:Option Tag
 sc:Nat
def svs (v:Value):List SV:=v.cells.toList.map .v
def nX (P:Program)(t:TypeId):Nat:=match P.info? t with|some i=>i.size|none=>0
def kl (P:Program)(t:TypeId):Bool:=match P.underlying t with|some (.struct _) =>true|some (.array _ _) =>true|_=>false
def cC:Option TypeDesc->Nat
 |some (.int _) =>1|some .string=>2|some .bool=>3|_=>0
def eqFields (P:Program):Nat->List Field->Bool
 |_,[] =>true
 |n,f::r=>(f.name != "_")&&Nat.beq f.offset n&&Nat.blt 0 (cC (P.underlying f.type))&&eqFields P (n+1) r
def nP (P:Program)(t:TypeId)(d:TypeDesc):List Nat:=match d with
 | .struct fs=>bif !P.stoodInHeld t&& !P.eqGuardType P.depth t&&eqFields P 0 fs.toList then fs.toList.map λf=>cC (P.underlying f.type)else []
 | .array n e=>bif !P.eqGuardType P.depth t&&Nat.blt 0 (cC (P.underlying e))&&Nat.beq (nX P e) 1 then List.replicate n (cC (P.underlying e))else []|_=>[]
def qB (P:Program)(t:TypeId):List Nat:=match P.underlying t with
 |some (.struct gs) =>bif !P.stoodInHeld t&&eqFields P 0 gs.toList&&Nat.beq (nX P t) gs.size&&(P.info? t).isSome then gs.toList.map λf=>cC (P.underlying f.type)else []
 |d=>bif Nat.blt 0 (cC d)then [cC d]else []
def um (P:Program):Nat->List Field->Bool
 |_,[] =>true
 |n,f::r=>(f.name != "_")&&Nat.beq f.offset n&&Nat.blt 0 (qB P f.type).length&&um P (n+(qB P f.type).length) r
def Jv (P:Program)(t:TypeId)(d:TypeDesc):List Nat:=match d with
 | .struct fs=>bif !P.stoodInHeld t&& !P.eqGuardType P.depth t&&um P 0 fs.toList then fs.toList.flatMap λf=>qB P f.type else []
 |_=>[]
def TF (P:Program)(t:TypeId)(d:TypeDesc):List Nat:=match nP P t d with
 | [] =>Jv P t d|l=>l
def Qq:SV->SV->Bool
 | .v (.int k a),.v (.int k' b) =>Nat.beq (kN k) (kN k')&&(match a,b with| .ofNat 0,.ofNat 0=>true|_,_=>false)
 | .v (.string a),.v (.string b) =>Nat.beq a.size 0&&Nat.beq b.size 0| .v (.bool false),.v (.bool false) =>true| .rs _ [],.v (.slice none 0 0) =>true| .rm _ _ [],.v (.map none) =>true| .v .nilFunc,.v .nilFunc=>true|_,_=>false
def ve:List SV->List SV->Bool
 | [],[] =>true|a::r,b::s=>Qq a b&&ve r s|_,_=>false
def Db:Bool->Bool->Bool
 |true,true=>true|false,false=>true|_,_=>false
def Ea:Value->Bool
 | .agg _=>true|_=>false
def Eb (P:Program)(t:TypeId)(i:TypeInfo)(k:Tag):Bool:=
 (match i.zero with|some z=>Db (Ea z) (oo k) |none=>false)&&Nat.beq i.size (aa k)&&Nat.ble 1 i.bytes&&ve (cellsOf k (eG k)) (match i.zero with|some z=>svs z|none=>[])&&Db (kl P t) (oo k)
def yF (P:Program)(t:TypeId)(i:TypeInfo):Option Tag:=match Tag.ofName i.str with|some k=>bif Eb P t i k then some k else none|none=>none
def LM (P:Program)(t:TypeId):Option Tag:=match P.info? t with|some i=>yF P t i|none=>none
def jm:Kd->Nat
 | .n _=>1| .s=>2| .b=>3|_=>0
def Ec:List Nat->List Nat->Bool
 | [],[] =>true|a::r,b::s=>Nat.beq a b&&Ec r s|_,_=>false
def Oh (P:Program)(t:TypeId)(k:Tag):Bool:=match P.underlying t with
 |some d=>bif kl P t then Ec ((et k).map jm) (nP P t d)&&Nat.blt 0 (et k).length else Ec ((et k).map jm) [cC (some d)]&&Nat.blt 0 (cC (some d))|none=>false
def LN (P:Program)(t:TypeId):Option Tag:=match LM P t with|some k=>bif Oh P t k then some k else none|none=>none
def dP (P:Program)(t:TypeId)(i:TypeInfo)(d:TypeDesc):TI:=
 {size:=i.size
  bytes:=i.bytes
  agg:=kl P t
  zero:=match i.zero with|some z=>svs z|none=>[]
  fields:=match d with| .struct fs=>fs.toList.map λf=>(f.offset,nX P f.type,kl P f.type) |_=>[]
  elem:=match d with| .slice e=>e| .array _ e=>e| .map _ e=>e|_=>0
  len:=match d with| .array n _=>n|_=>0
  isSlice:=match d with| .slice _=>true|_=>false
  apo:=match d with| .array _ _=>true|_=>false
  tag:=yF P t i
  int:=match d with| .int k=>some k|_=>none
  iface:=match d with| .interface _=>true|_=>false
  eq:=TF P t d
  mkt:=match d with| .map k _=>LN P k|_=>none
  mvt:=match d with| .map _ e=>LM P e|_=>none
  sc:=cC (some d)}
def zO (P:Program)(d:TypeDesc):Bool:=match d with| .struct fs=>fs.toList.all λf=>(P.info? f.type).isSome&&(P.underlying f.type).isSome|_=>true
def jn (P:Program)(t:TypeId):Option TI:=
 match P.info? t,P.underlying t with
 |some i,some d=>bif i.zero.isSome&&zO P d then some (dP P t i d)else none|_,_=>none
abbrev Tis:=TypeId->Option TI
def Tis.ok (ts:Tis)(P:Program):Prop:= ∀ t i,ts t=some i->jn P t=some i
inductive Ob where
 |cells (l:List SV)
 |dead
 |row (k:Tag) (l:List k.T)
 |mp (kk vk:Tag) (l:List (kk.T×vk.T)) (apj:Option (Nat×Option kk.T))
 |aoV (k:Tag) (l:List (List k.T))
 |ab (r:Res)
 |raw (o:Obj)
 |mi (mid:Option Nat) (n:Nat) (left:List Nat) (cur:Option Nat)
 |fwd (n:Option Nat)
 |fz (k:Tag) (l:List k.T)
instance:Inhabited Ob:=⟨.dead⟩
structure St where
 t:List (Nat×SV)
 h:List Ob
 deriving Inhabited
def lk (t:Nat):List (Nat×SV)->SV
 | [] =>.any|(a,s)::r=>bif Nat.beq a t then s else lk t r
def St.put (st:St)(d:Option Nat)(s:SV):St:=match d with|some d=>⟨(d,s)::st.t,st.h⟩ |none=>st
def ap:List Ob->Nat->Ob
 | [],_=>.dead|o::_,0=>o|_::r,n+1=>ap r n
def cL:List Ob->Nat->Ob->List Ob
 | [],0,x=>[x]| [],n+1,x=>.dead::cL [] n x|_::r,0,x=>x::r|o::r,n+1,x=>o::cL r n x
abbrev Up:=Nat×Ob
def noE {κ:Type}:Option (Nat×Option κ)->Bool
 |some (_,some _) =>false|_=>true
def bf (h:List Ob):List Up->List Ob
 | [] =>h|(id,o)::r=>bf (cL h id o) r
inductive Con where
 |det (pre:Prop) (s:SV)
 |rel (α:Type) (pre:Prop) (post:α->Prop) (out:α->SV)
 |may (ok:Bool) (s:SV) (x:Value)
inductive Rs where
 |ret (s:SV) (h:List Ob)
 |pan (x:Value) (h:List Ob)
structure aoJ where
 α:Type
 pre:Prop
 post:α->Prop
 res:α->Rs
structure apR where
 α:Type
 pre:Prop
 post:α->Prop
 res:α->Bool×Res
structure Cons where
 p:FuncId->List SV->Option Con
 o:FuncId->List SV->List Ob->Option aoJ
 y:List SV->Res->Option apR
def ph:SV->Option (List SV)
 | .agg l=>some l| .v (.agg cs) =>some (cs.toList.map .v)| .v (.tuple _) =>none| .any=>none| .tup _=>none| .gd .. =>none| .nw .. =>none| .nm .. =>none| .ng .. =>none|s=>some [s]
def nth {α:Type}:List α->Nat->Option α
 | [],_=>none|x::_,0=>some x|_::r,n+1=>nth r n
def cut:Nat->List SV->List SV
 |0,_=>[]|_+1,[] =>[]|n+1,x::r=>x::cut n r
def LO:Nat->List SV->List SV
 |0,l=>l|_+1,[] =>[]|n+1,_::r=>LO n r
def sz:List SV->Nat
 | [] =>0|_::r=>sz r+1
def re (agg:Bool)(size:Nat)(cells:List SV)(off:Nat):Option SV:=
 bif agg then(bif Nat.ble (off+size) (sz cells)then some (.agg (cut size (LO off cells)))else none)
 else nth cells off
def Ed:List SV->Nat->SV->List SV
 | [],_,_=>[]|_::r,0,s=>s::r|x::r,n+1,s=>x::Ed r n s
def gN (cells:List SV)(off:Nat):List SV->List SV
 | [] =>cells|x::xs=>gN (Ed cells off x) (off+1) xs
section
variable {κ υ:Type}
def iy [DecidableEq κ]:List (κ×υ)->κ->Option υ
 | [],_=>none|(a,b)::r,x=>if x=a then some b else iy r x
def tx [DecidableEq κ]:List (κ×υ)->κ->υ->List (κ×υ)
 | [],x,y=>[(x,y)]|(a,b)::r,x,y=>if x=a then(x,y)::r else(a,b)::tx r x y
def Oi [DecidableEq κ]:List (κ×υ)->κ->Nat
 | [],_=>0|(a,_)::r,x=>if x=a then 0 else Oi r x+1
end
def aq (kk vk:Tag)(l:List (kk.T×vk.T))(x:kk.T):vk.T:=(iy l x).getD (eG vk)
def wL (kk vk:Tag)(l:List (kk.T×vk.T))(x:kk.T):Bool:=(iy l x).isSome
def cH (kk vk:Tag)(l:List (kk.T×vk.T))(x:kk.T)(y:vk.T):List (kk.T×vk.T):=tx l x y
def Bf {κ υ:Type}[DecidableEq κ]:List (κ×υ)->κ->List (κ×υ)
 | [],_=>[]|(a,b)::r,x=>if x=a then r else(a,b)::Bf r x
def sq (kk vk:Tag)(l:List (kk.T×vk.T))(x:kk.T):List (kk.T×vk.T):=Bf l x
def un (kk vk:Tag)(l:List (kk.T×vk.T))(x:kk.T):Nat:=Oi l x
def afs (kk vk:Tag)(l:List (kk.T×vk.T))(x:kk.T):Option kk.T:=if(iy l x).isSome then none else some x
def svT (k:Tag)(x:k.T):SV:=bif oo k then .agg (cellsOf k x)else(nth (cellsOf k x) 0).getD .any
def CD (k:Tag):Option (List SV)->Option k.T
 |some l=>oq k l|none=>none
def zP:SV->Option (List SV)
 | .agg l=>some l| .v (.agg cs) =>some (cs.toList.map .v)|_=>none
def Bg:SV->Option (List SV)
 | .agg _=>none| .v (.agg _) =>none|s=>ph s
def unT (k:Tag)(s:SV):Option k.T:=bif oo k then CD k (zP s)else CD k (Bg s)
inductive OR where
 |val (s:SV)
 |chk (c:Prop) (s:SV)
 |asm (c:Prop) (s:SV)
 |apm (s:SV)
 |eff (c a:Prop) (ups:List Up) (s:SV)
 |call (f:FuncId) (args:List SV)
 |yld (id:Nat) (args:List SV)
 |nxt (id:Nat)
 |amb (p:Bool->Prop)
 |pan (x:Value)
 |bad
structure Cx where
 ts:Tis
 ops:List Oper
 g:Option (Nat×Bool)
 st:St
 nx:Nat
def rJ (ops:List Oper):Nat->Option (Nat×Bool)->Nat->Bool->Bool
 |0,_,_,_=>false|_+1,none,_,_=>false|n+1,some (j,b),j',b'=>bif Nat.beq j j'&&Db b b' then true else rJ ops n ((nth ops j).bind (·.guard)) j' b'
def bL (ops:List Oper)(g:Option (Nat×Bool)):SV->SV
 | .gd j b s=>bif rJ ops ops.length g j b then s else .any| .any=>.any| .v x=>.v x| .ptr a b=>.ptr a b| .os a=>.os a| .e0=>.e0| .rc a b=>.rc a b| .rp a b c d=>.rp a b c d| .gr a b=>.gr a b| .gp a b c d e=>.gp a b c d e| .ep a b=>.ep a b| .rs k l=>.rs k l| .ls s l=>.ls s l| .rm k k2 l=>.rm k k2 l| .agg l=>.agg l| .tup l=>.tup l| .fn f l m=>.fn f l m| .nw k l=>.nw k l| .nm k k2 l=>.nm k k2 l| .ng k l=>.ng k l| .vw a b c d=>.vw a b c d
def raw (t:List (Nat×SV)):Operand->SV
 | .tmp n=>lk n t| .const x=>.v x| .func f=>.fn f [] []| .global _=>.any
def val (cx:Cx)(x:Operand):SV:=bL cx.ops cx.g (raw cx.st.t x)
def dA (cx:Cx):List Operand->List SV
 | [] =>[]|x::r=>val cx x::dA cx r
def ot (cx:Cx):Option Operand->Option SV
 |some x=>some (val cx x)|none=>none
def iI (cx:Cx):List (Nat×Operand)->List (Nat×SV)
 | [] =>[]|(i,x)::r=>(i,val cx x)::iI cx r
def Ee:Operand->Bool
 | .const (.bool true) =>true|_=>false
def zQ:Operand->Bool
 | .const (.bool false) =>true|_=>false
def LP (ops:List Oper)(j:Nat)(c:Operand):Bool:=
 match (nth ops j).bind (·.dst),c with
 |some d,.tmp t=>Nat.beq d t|_,_=>false
def kA (ops:List Oper)(g:Option (Nat×Bool))(c:Operand)(want:Bool):SV->SV
 | .gd j b s=>bif Db b want&&LP ops j c then s else bL ops g (.gd j b s)|s=>bL ops g s
def Ef (a b:Operand):SV->SV->SV->OR
 | .v (.bool x),.v (.bool y),.v (.bool z) =>bif Ee a then .val (.b (x||z))else bif zQ b then .val (.b (x&&y))else .bad| .v (.bool x),.any,.v (.bool z) =>.chk (x=false) (.b z)| .v (.bool x),.v (.bool y),.any=>.chk (x=true) (.b y)|_,_,_=>.bad
def mu (k:IntKind)(a b:Int):Int:=a.fdiv (2 ^ min b.toNat k.bits)
def aft (k:IntKind)(a b:Int):Int:=k.wrap (a*2 ^ min b.toNat k.bits)
def afu (k:IntKind)(a b:Int):Int:=k.wrap ((BitVec.ofInt k.bits a&&&BitVec.ofInt k.bits b).toNat:Int)
def orI (k:IntKind)(a b:Int):Int:=k.wrap ((BitVec.ofInt k.bits a|||BitVec.ofInt k.bits b).toNat:Int)
def afv (k:IntKind)(a b:Int):Int:=k.wrap ((BitVec.ofInt k.bits a ^^^ BitVec.ofInt k.bits b).toNat:Int)
def Qr (k:IntKind)(a b:Int):Int:=k.wrap ((BitVec.ofInt k.bits a&&& ~~~(BitVec.ofInt k.bits b)).toNat:Int)
def uo (op:BinOp)(k:IntKind)(a b:Int):OR:=
 match op with
 | .add=>.val (.v (.int k (k.wrap (a+b))))| .sub=>.val (.v (.int k (k.wrap (a - b))))| .mul=>.val (.v (.int k (k.wrap (a*b))))| .quo=>.chk (b≠0) (.v (.int k (k.wrap (a.tdiv b))))| .rem=>.chk (b≠0) (.v (.int k (a.tmod b)))| .shr=>.chk (0<=b) (.v (.int k (mu k a b)))| .shl=>.chk (0<=b) (.v (.int k (aft k a b)))| .and=>.val (.v (.int k (afu k a b)))| .or=>.val (.v (.int k (orI k a b)))| .xor=>.val (.v (.int k (afv k a b)))| .andNot=>.val (.v (.int k (Qr k a b)))| .eql=>.val (.v (.bool (a==b)))| .neq=>.val (.v (.bool (a !=b)))| .lss=>.val (.v (.bool (decide (a<b))))| .leq=>.val (.v (.bool (decide (a<=b))))| .gtr=>.val (.v (.bool (decide (a > b))))| .geq=>.val (.v (.bool (decide (a>=b))))
def Qs (op:BinOp)(a b:ByteArray):OR:=
 match op with
 | .eql=>.val (.v (.bool (a==b)))| .neq=>.val (.v (.bool (a !=b)))|_=>.bad
def Jw (op:BinOp)(a b:Bool):OR:=
 match op with
 | .eql=>.val (.v (.bool (a==b)))| .neq=>.val (.v (.bool (a !=b)))|_=>.bad
def eqV (c:Nat):SV->SV->Option Bool
 | .v (.int k a),.v (.int k' b) =>bif Nat.beq c 1&&Nat.beq (kN k) (kN k')then some (a==b)else none| .v (.string a),.v (.string b) =>bif Nat.beq c 2 then some (a==b)else none| .v (.bool a),.v (.bool b) =>bif Nat.beq c 3 then some (a==b)else none|_,_=>none
def y4:Option Bool->Option Bool->Option Bool
 |some a,some b=>some (a&&b)|_,_=>none
def eqL:List Nat->List SV->List SV->Option Bool
 | [],[],[] =>some true|c::cs,x::r,y::s=>y4 (eqV c x y) (eqL cs r s)|_,_,_=>none
def eqO (op:BinOp):Option Bool->OR
 |some b=>match op with| .eql=>.val (.v (.bool b)) | .neq=>.val (.v (.bool !b)) |_=>.bad
 |none=>.bad
def aaz (op:BinOp)(l m:List SV):List Nat->OR
 | [] =>.bad|c::cs=>eqO op (eqL (c::cs) l m)
def aQ (ts:Tis)(t:TypeId)(k:TI->OR):OR:=match ts t with|some i=>k i|none=>.bad
def eqT (op:BinOp)(l m:List SV)(ti:TI):OR:=aaz op l m ti.eq
def CE (op:BinOp)(k k':IntKind):Bool:=
 match op with
 | .shl=>true| .shr=>true|_=>Nat.beq (kN k) (kN k')
def aaA (op:BinOp):SV->SV->OR
 | .v (.int k a),.v (.int k' b) =>bif CE op k k' then uo op k a b else .bad|_,_=>.bad
def XD (op:BinOp)(p:Prop):OR:=
 match op with
 | .eql=>.amb λb=>b=true->p
 | .neq=>.amb λb=>b=false->p
 |_=>.bad
def eqS (op:BinOp)(ti:TI):SV->SV->OR
 | .rs _ l,.v (.slice none 0 0) =>bif ti.isSlice then XD op (l=[])else .bad| .v (.string a),.v (.string b) =>bif Nat.beq ti.sc 2 then Qs op a b else .bad| .v (.bool a),.v (.bool b) =>bif Nat.beq ti.sc 3 then Jw op a b else .bad| .agg l,.agg m=>eqT op l m ti|_,_=>.bad
def Jx (ts:Tis)(op:BinOp)(t:TypeId):SV->SV->OR
 | .v (.int k a),.v (.int k' b) =>aaA op (.v (.int k a)) (.v (.int k' b))
 |a,b=>aQ ts t λti=>eqS op ti a b
def unS:UnOp->SV->OR
 | .not,.v (.bool b) =>.val (.v (.bool !b))| .neg,.v (.int k n) =>.val (.v (.int k (k.wrap (0 - n))))|_,_=>.bad
def uq:Option SV->OR
 |some s=>.val s|none=>.bad
def Eg (agg:Bool)(size szt:Nat)(id:Nat)(i:Int)(off:Nat):Ob->OR
 | .row k l=>bif Nat.beq szt (aa k)then uq (re agg size (cellsOf k (l.getD i.toNat (eG k))) off)else .bad| .aoV _ _=>bif Nat.beq szt 1&&Nat.beq off 0&& !agg then .val (.gr id i)else .bad|_=>.bad
def Bh (agg:Bool)(size szt:Nat)(i j:Int)(off:Nat):Ob->OR
 | .aoV k l=>bif Nat.beq szt (aa k)then uq (re agg size (cellsOf k ((l.getD i.toNat []).getD j.toNat (eG k))) off)else .bad|_=>.bad
def zR (agg:Bool)(size off:Nat):Ob->OR
 | .cells l=>uq (re agg size l off)|_=>.bad
def qC (ti:TI)(h:List Ob):SV->OR
 | .ptr id off=>zR ti.agg ti.size off (ap h id)| .ep l off=>uq (re ti.agg ti.size l off)| .rp s id i off=>Eg ti.agg ti.size s id i off (ap h id)| .gp s id i j off=>Bh ti.agg ti.size s i j off (ap h id)|_=>.bad
def Bi (n:Nat):SV->OR
 | .ptr id off=>.val (.ptr id (off+n))| .ep l off=>.val (.ep l (off+n))| .rp s id i off=>.val (.rp s id i (off+n))| .gp s id i j off=>.val (.gp s id i j (off+n))|_=>.bad
def Jy (esz id:Nat)(i:Int):Ob->OR
 | .row k l=>bif Nat.beq esz (aa k)then .chk (0<=i/\i< (l.length:Int)) (.rp esz id i 0)else .bad| .aoV _ l=>bif Nat.beq esz 1 then .chk (0<=i/\i< (l.length:Int)) (.rp 1 id i 0)else .bad|_=>.bad
def Oj (esz id:Nat)(i j:Int):Ob->OR
 | .aoV k l=>bif Nat.beq esz (aa k)then .chk (0<=j/\j< ((l.getD i.toNat []).length:Int)) (.gp esz id i j 0)else .bad|_=>.bad
def Ok (i:Int)(s:Nat)(l:List SV):OR:=bif Nat.ble 1 s&&Nat.ble (i.toNat*s+s) (sz l)then .chk (0<=i) (.ep l (i.toNat*s))else .bad
def ip (ti:TI)(esz:Nat)(h:List Ob):SV->SV->OR
 | .rs k l,.v (.int _ i) =>bif ti.isSlice&&Nat.beq esz (aa k)then .chk (0<=i/\i< (l.length:Int)) (.ep (cellsOf k (l.getD i.toNat (eG k))) 0)else .bad| .os id,.v (.int _ i) =>bif ti.isSlice then Jy esz id i (ap h id)else .bad| .gr id i,.v (.int _ j) =>bif ti.isSlice then Oj esz id i j (ap h id)else .bad| .ls s l,.v (.int _ i) =>bif ti.isSlice&&Nat.beq esz s then Ok i s l else .bad| .ptr id off,.v (.int _ i) =>bif ti.apo then .chk (0<=i/\i< (ti.len:Int)) (.ptr id (off+i.toNat*esz))else .bad| .ep l off,.v (.int _ i) =>bif ti.apo then .chk (0<=i/\i< (ti.len:Int)) (.ep l (off+i.toNat*esz))else .bad| .rp s id i off,.v (.int _ j) =>bif ti.apo then .chk (0<=j/\j< (ti.len:Int)) (.rp s id i (off+j.toNat*esz))else .bad|_,_=>.bad
def lH (place:Nat->Option (Nat×Nat))(cells:List SV):List (Nat×SV)->Option (List SV)
 | [] =>some cells
 |(i,v)::rest=>
  match place i,ph v with
  |some (off,size),some vs=>bif Nat.beq (sz vs) size&&Nat.ble (off+size) (sz cells)then lH place (gN cells off vs) rest else none|_,_=>none
def rG (k:Tag)(size:Nat):Nat->List SV->Option (List k.T)
 |0,_=>some []
 |n+1,cells=>match oq k (cut size cells),rG k size n (LO size cells)with
  |some x,some xs=>some (x::xs)|_,_=>none
def Dc (n:Nat)(z:List SV):List SV:=match n with|0=>[] |n+1=>z++Dc n z
def sr (f:Option (Nat×Nat×Bool))(l:Option (List SV)):OR:=
 match f,l with
 |some (o,n,g),some l=>uq (re g n l o)|_,_=>.bad
def Ol:SV->Bool
 | .v (.agg _) =>false| .v (.tuple _) =>false| .any=>false| .agg _=>false| .tup _=>false| .gd .. =>false| .nw .. =>false| .nm .. =>false| .ng .. =>false|_=>true
def vg:List SV->Bool
 | [] =>true|x::r=>Ol x&&vg r
def Om (k:Tag)(id:Nat)(i:Int)(l:List k.T):Option k.T->OR
 |some x=>.eff True True [(id,.row k (l.set i.toNat x))] .any|none=>.bad
def Jz (k:Tag)(id:Nat)(i j:Int)(l:List (List k.T)):Option k.T->OR
 |some x=>.eff True True [(id,.aoV k (l.set i.toNat ((l.getD i.toNat []).set j.toNat x)))] .any|none=>.bad
def On (id off:Nat)(vs:List SV):Ob->OR
 | .cells l=>bif Nat.ble (off+sz vs) (sz l)&&vg vs then .eff True True [(id,.cells (gN l off vs))] .any else .bad|_=>.bad
def Oo (s id:Nat)(i:Int)(off:Nat)(vs:List SV):Ob->OR
 | .row k l=>bif Nat.beq s (aa k)&&Nat.ble (off+sz vs) s then Om k id i l (oq k (gN (cellsOf k (l.getD i.toNat (eG k))) off vs))else .bad|_=>.bad
def Oq (s id:Nat)(i j:Int)(off:Nat)(vs:List SV):Ob->OR
 | .aoV k l=>bif Nat.beq s (aa k)&&Nat.ble (off+sz vs) s then Jz k id i j l (oq k (gN (cellsOf k ((l.getD i.toNat []).getD j.toNat (eG k))) off vs))else .bad|_=>.bad
def rf (size:Nat)(h:List Ob):SV->Option (List SV)->OR
 | .ptr id off,some vs=>bif Nat.beq (sz vs) size then On id off vs (ap h id)else .bad| .rp s id i off,some vs=>bif Nat.beq (sz vs) size then Oo s id i off vs (ap h id)else .bad| .gp s id i j off,some vs=>bif Nat.beq (sz vs) size then Oq s id i j off vs (ap h id)else .bad|_,_=>.bad
def JA:Ob->Bool
 | .aoV _ _=>true|_=>false
def TG (k:Tag)(nx id rid:Nat)(i:Int)(l:List (List k.T)):Option (List k.T)->OR
 |some m=>.eff True True [(id,.dead),(rid,.dead),(nx,.aoV k (l.set i.toNat m)),(id,.fwd (some nx))] .any|none=>.bad
def Ot (k:Tag):Ob->Option (List k.T)
 | .row k' l=>if h:k'=k then some (h▸l)else none|_=>none
def Eh (nx:Nat)(h:List Ob)(id rid:Nat)(i:Int):Ob->OR
 | .aoV k l=>TG k nx id rid i l (Ot k (ap h rid))|_=>.bad
def rg (size nx:Nat)(h:List Ob):SV->SV->OR
 | .rp s id i off,.os rid=>bif JA (ap h id)then(bif Nat.beq size 1&&Nat.beq s 1&&Nat.beq off 0&& !(Nat.beq id rid)then Eh nx h id rid i (ap h id)else .bad)else rf size h (.rp s id i off) (ph (.os rid))|a,x=>rf size h a (ph x)
def TH:SV->OR
 | .ptr id off=>.val (.ptr id off)| .ep l off=>.val (.ep l off)| .rp a b c d=>.val (.rp a b c d)| .gp a b c d e=>.val (.gp a b c d e)
 | .fn f first caps=>.val (.fn f first caps)
 |_=>.bad
def LQ:Option IntKind->SV->OR
 |some k,.v (.int _ n) =>.val (.v (.int k (k.wrap n)))|_,_=>.bad
def JB (nx:Nat):Option (List SV)->OR
 |some l=>.eff True True [(nx,.cells l)] (.ptr nx 0)|none=>.bad
def Ou:Option (List SV)->OR
 |some l=>.val (.agg l)|none=>.bad
def TJ (k:Tag):Option (List k.T)->OR
 |some xs=>.apm (.rs k xs)|none=>.bad
def lsS (n s:Nat)(l:List SV):OR:=bif Nat.beq (sz l) (n*s)&&vg l then .apm (.ls s l)else .bad
def bsT (k:Tag)(ti te:TI)(n:Nat):Option (List SV)->OR
 |some l=>bif Nat.beq te.size (aa k)&&ti.isSlice&&Nat.ble (n*te.size) 16777216&&Nat.beq (sz te.zero) te.size then TJ k (rG k te.size n l)else .bad|none=>.bad
def bsU (ti te:TI)(n:Nat):Option (List SV)->OR
 |some l=>bif ti.isSlice&&Nat.ble 1 te.size&&Nat.ble (n*te.size) 16777216&&Nat.beq (sz te.zero) te.size then lsS n te.size l else .bad|none=>.bad
def noG:Option (Nat×Bool)->Bool
 |none=>true|some _=>false
def afw:Op->Bool
 | .call ⟨.value _,_,_⟩ =>true|_=>false
def afx:Op->Bool
 | .call ⟨.builtin .append,_,_⟩ =>true|_=>false
def TK:List Oper->Bool
 | [] =>false
 |o::r=>afw o.op||TK r
def Qt:List Oper->Bool
 | [] =>false
 |o::r=>afx o.op||Qt r
def afy:Op->Bool
 | .call ⟨.builtin .clear,_,_⟩ =>true|_=>false
def TL:List Oper->Bool
 | [] =>false
 |o::r=>afy o.op||TL r
def aaB:Op->Bool
 | .slice .. =>true|_=>false
def Ov:List Oper->Bool
 | [] =>false| [o] =>aaB o.op|_::r=>Ov r
def Qu:List Oper->List Nat
 | [] =>[]|o::r=>bif aaB o.op then o.dst.toList++Qu r else Qu r
def LR (ds:List Nat):List Operand->Bool
 | [] =>false
 | .tmp d::r=>ds.any (Nat.beq d) ||LR ds r
 |_::r=>LR ds r
def TM:Op->List Operand
 | .call ⟨.value _,args,_⟩ =>args.toList|_=>[]
def aaC (ds:List Nat):List Oper->Bool
 | [] =>false
 |o::r=>LR ds (TM o.op) ||aaC ds r
def LS (ops:List Oper):Bool:=Qt ops||TL ops||Ov ops||aaC (Qu ops) ops
def afz (ops:List Oper)(g:Option (Nat×Bool)):Option (Nat×Bool):=bif Qt ops&&TK ops then some (0,true)else g
def aaD:List (Nat×Operand)->List Operand
 | [] =>[]|(_,x)::r=>x::aaD r
def TN:Op->List Operand
 | .build _ parts=>aaD parts.toList|_=>[]
def aaE (ds:List Nat):List Oper->Bool
 | [] =>false
 |o::r=>LR ds (TN o.op) ||aaE ds r
def afA (t:TypeId):Op->Bool
 | .buildSlice t' _ _=>Nat.beq t t'|_=>false
def Qv (t:TypeId):List Oper->List Nat
 | [] =>[]|o::r=>bif afA t o.op then o.dst.toList++Qv t r else Qv t r
def ZB:Bool:=false
def JD (t:TypeId)(ops:List Oper)(g:Option (Nat×Bool)):Option (Nat×Bool):=bif ZB&&aaE (Qv t ops) ops then some (0,true)else afz ops g
def afB:SV->Bool
 | .os _=>true|_=>false
def osL:List SV->Bool
 | [] =>false
 |s::r=>afB s||osL r
def osV:SV->Bool
 | .os _=>true| .agg l=>osL l|_=>false
def XE:List (Nat×SV)->Bool
 | [] =>false
 |(_,s)::r=>osV s||XE r
def bsG (ti te:TI)(n:Nat)(l:Option (List SV))(os:Bool):Option Tag->OR
 |some k=>bif os then bsU ti te n l else bsT k ti te n l|none=>bsU ti te n l
def ZC:List Kd->Bool
 | [.f] =>true|_=>false
def aaF:Option Tag->Option Tag
 |some k=>bif ZC (et k)then none else some k|none=>none
def bsS (ti te:TI)(n:Nat)(parts:List (Nat×SV)):OR:=
 bif Nat.beq n 0 then(bif ti.isSlice&&parts.isEmpty then .apm .e0 else .bad)
 else bsG ti te n (lH (λi=>some (i*te.size,te.size)) (Dc n te.zero) parts) (XE parts) (aaF te.tag)
def one {α:Type}:List α->Bool
 | [_] =>true|_=>false
def Hi (g:Option (Nat×Bool))(nx:Nat)(te:TI):OR->OR
 | .apm (.rs k l) =>bif(te.agg||one l)&&noG g then .eff True True [(nx,.row k l)] (.os nx)else .apm (.rs k l)|r=>r
def TO (i:Nat):SV->OR
 | .tup l=>uq (nth l i)|_=>.bad
def zS (args:List SV):SV->OR
 | .fn g first caps=>.call g (first++args++caps)
 | .os id=>.yld id args|_=>.bad
def aN:Nat:=140737488355328
def XF:Ob->OR
 | .row _ l=>.asm (l.length<=aN) (.i l.length)| .aoV _ l=>.asm (l.length<=aN) (.i l.length)|_=>.bad
def aaG (i:Int):Ob->OR
 | .aoV _ l=>.asm ((l.getD i.toNat []).length<=aN) (.i (l.getD i.toNat []).length)|_=>.bad
def aaH (m:Option Tag):Ob->OR
 | .mp _ _ l p=>bif m.isSome&&noE p then .val (.i l.length)else .bad|_=>.bad
def t_ (ti:TI)(h:List Ob):List SV->OR
 | [.rs _ l] =>bif ti.isSlice then .asm (l.length<=aN) (.i l.length)else .bad| [.v (.slice none 0 0)] =>bif ti.isSlice then .val (.i 0)else .bad| [.e0] =>bif ti.isSlice then .val (.i 0)else .bad| [.rc _ l] =>bif ti.isSlice then .asm (l.length<=aN) (.i l.length)else .bad| [.os id] =>bif ti.isSlice then XF (ap h id)else aaH ti.mkt (ap h id)| [.gr id i] =>bif ti.isSlice then aaG i (ap h id)else .bad| [.ls s l] =>bif ti.isSlice&&Nat.ble 1 s then .val (.i ((sz l / s:Nat):Int))else .bad|_=>.bad
def JE:List SV->OR
 | [.v (.int k a),.v (.int _ b)] =>.val (.v (.int k (if b<a then b else a)))|_=>.bad
def JF:List SV->OR
 | [.v (.int k a),.v (.int _ b)] =>.val (.v (.int k (if a<b then b else a)))|_=>.bad
def TP:SV->OR
 | .v (.iface t y) =>.pan (.iface t y)|_=>.bad
def Ei (t:TypeId):SV->OR
 | .v (.int k n) =>.val (.v (.iface t (.int k n)))|_=>.bad
def LU (fn:Fn)(first caps:List SV):OR:=
 match fn with
 | .func f=>.val (.fn f first caps)
 |_=>.bad
def d8:Nat:=140737488355328
def Qw (a:Tag):Option Tag->Bool
 |some b=>Nat.beq (zK a) (zK b)|none=>false
def zT (k:Tag)(k':Tag)(l:List k'.T):Option (List k.T):=if h:k'=k then some (h▸l)else none
def TQ (k:Tag):Ob->Option (List k.T)
 | .row k' l=>zT k k' l|_=>none
def aaI (k:Tag)(s:Nat)(lo hi:Int):Ob->Option (List k.T)
 | .row k' l=>bif Nat.beq s (aa k')then zT k k' ((l.take hi.toNat).drop lo.toNat)else none|_=>none
def ur (k:Tag)(h:List Ob):SV->Option (List k.T)
 | .rs k' l=>zT k k' l| .v (.slice none 0 0) =>some []| .e0=>some []| .os id=>TQ k (ap h id)| .vw s id lo hi=>aaI k s lo hi (ap h id)|_=>none
def TR (k:Tag)(nx bytes:Nat)(kill:List Up)(l:List k.T):Option (List k.T)->OR
 |some m=>.eff ((l++m).length*bytes<=d8) ((l++m).length<=aN) (kill++[(nx,.row k (l++m))]) (.os nx)|none=>.bad
def wq (te:TI)(nx:Nat)(kill:List Up)(h:List Ob)(src:SV):Ob->OR
 | .row k l=>bif Nat.beq te.size (aa k)&&Nat.beq (sz te.zero) te.size&&Nat.ble 1 te.bytes then TR k nx te.bytes kill l (ur k h src)else .bad|_=>.bad
def Ej (k:Tag)(nx bytes id2:Nat)(kill:List Up)(l:List (List k.T)):Option (List k.T)->OR
 |some m=>.eff ((l++[m]).length*bytes<=d8) ((l++[m]).length<=aN) (kill++[(id2,.dead),(nx,.aoV k (l++[m]))]) (.os nx)|none=>.bad
def Ek (nx bytes:Nat)(h:List Ob)(id2:Nat)(kill:List Up):Ob->OR
 | .aoV k l=>Ej k nx bytes id2 kill l (TQ k (ap h id2))|_=>.bad
def XG (nx bytes id2:Nat):Ob->OR
 | .row k m=>Ej k nx bytes id2 [] [] (some m)|_=>.bad
def vh (te:TI)(nx:Nat)(h:List Ob)(src:SV):Option Tag->OR
 |some k=>wq te nx [] h src (.row k [])|none=>.bad
def XH (te:TI)(id:Nat):Ob->OR
 | .row k l=>bif Nat.beq te.size (aa k)&&Nat.beq (sz te.zero) te.size&&Nat.ble 1 te.bytes then .eff ((l++l).length*te.bytes<=d8) ((l++l).length<=aN) [(id,.fz k l)] (.rs k (l++l))else .bad|_=>.bad
def Ow {α:Type}:List α->Bool
 | [] =>false|_=>true
def TS (k:Tag)(bytes:Nat)(l:List k.T):Option (List k.T)->OR
 |some m=>bif Ow m then .eff ((l++m).length*bytes<=d8) ((l++m).length<=aN) [] (.rs k (l++m))else .bad|none=>.bad
def XI (te:TI)(h:List Ob)(src:SV)(k:Tag)(l:List k.T):OR:=bif Nat.beq te.size (aa k)&&Nat.beq (sz te.zero) te.size&&Nat.ble 1 te.bytes then TS k te.bytes l (ur k h src)else .bad
def mv (te:TI)(nx:Nat)(h:List Ob):List SV->OR
 | [.os id,.ls 1 [.os id2]] =>bif Nat.beq te.size 1&&Nat.beq (sz te.zero) 1&&Nat.ble 1 te.bytes&& !(Nat.beq id id2)then Ek nx te.bytes h id2 [(id,.dead)] (ap h id)else .bad| [.v (.slice none 0 0),.ls 1 [.os id2]] =>bif Nat.beq te.size 1&&Nat.beq (sz te.zero) 1&&Nat.ble 1 te.bytes then XG nx te.bytes id2 (ap h id2)else .bad| [.os id,.os id2] =>bif Nat.beq id id2 then XH te id (ap h id)else wq te nx [(id,.dead)] h (.os id2) (ap h id)| [.os id,src] =>wq te nx [(id,.dead)] h src (ap h id)| [.v (.slice none 0 0),src] =>vh te nx h src te.tag| [.e0,src] =>vh te nx h src te.tag| [.rc k l,src] =>XI te h src k l|_=>.bad
def wM (k:Tag)(l:List k.T)(lo hi:Int):List k.T:=if hi.toNat<=lo.toNat then l else l.take lo.toNat++List.replicate (hi.toNat - lo.toNat) (eG k)++l.drop hi.toNat
def aaJ (te:TI)(s id:Nat)(lo hi:Int):Ob->OR
 | .row k l=>bif Nat.beq s (aa k)&&Qw k te.tag then .eff True True [(id,.row k (wM k l lo hi))] .any else .bad|_=>.bad
def y5 (ti te:TI)(h:List Ob):List SV->OR
 | [.vw s id lo hi] =>bif ti.isSlice then aaJ te s id lo hi (ap h id)else .bad|_=>.bad
def mkT (nx:Nat)(n c:Int)(te:TI):Option Tag->OR
 |some k=>.eff (n=c/\0<=n/\n*te.bytes<=d8) (n<=aN) [(nx,.row k (List.replicate n.toNat (eG k)))] (.os nx)|none=>.bad
def mkS (nx:Nat)(te:TI):SV->SV->OR
 | .v (.int .i64 n),.v (.int .i64 c) =>mkT nx n c te te.tag|_,_=>.bad
def XJ:List SV->Bool
 | [.v (.slice none 0 0)] =>true|_=>false
def XK (nx:Nat)(n c:Int)(te:TI):Option Tag->OR
 |some k=>bif Nat.beq te.size 1&&XJ te.zero&&Nat.ble 1 te.bytes then .eff (n=c/\0<=n/\n*te.bytes<=d8) (n<=aN) [(nx,.aoV k (List.replicate n.toNat []))] (.os nx)else .bad|none=>.bad
def Hj (nx:Nat)(te tr:TI):SV->SV->OR
 | .v (.int .i64 n),.v (.int .i64 c) =>XK nx n c te tr.tag|_,_=>.bad
def bnd (d:Int):Option SV->Option Int
 |none=>some d|some (.v (.int _ n)) =>some n|_=>none
def XL (k:Tag)(l:List k.T):Option Int->Option Int->OR
 |some lo,some hi=>.chk (0<=lo/\lo<=hi/\hi<=(l.length:Int)) (.rs k ((l.take hi.toNat).drop lo.toNat))|_,_=>.bad
def XM (id nx:Nat)(k:Tag)(l:List k.T):Option Int->Option Int->OR
 |some lo,some hi=>.eff (0<=lo/\lo<=hi/\hi<=(l.length:Int)) True [(id,.dead),(nx,.row k ((l.take hi.toNat).drop lo.toNat))] (.os nx)|_,_=>.bad
def XN (esz id nx:Nat)(lo hi:Option SV):Ob->OR
 | .row k l=>bif Nat.beq esz (aa k)then XM id nx k l (bnd 0 lo) (bnd l.length hi)else .bad|_=>.bad
def TT (esz id n:Nat):Option Int->OR
 |some a=>.chk (0<=a/\a<=(n:Int)) (.vw esz id a n)|none=>.bad
def TU (esz id:Nat)(lo:Option SV):Ob->OR
 | .row k l=>bif Nat.beq esz (aa k)then TT esz id l.length (bnd 0 lo)else .bad|_=>.bad
def mN (ti:TI)(esz nx:Nat)(h:List Ob)(lo hi:Option SV)(vq:Bool):SV->OR
 | .rs k l=>bif ti.isSlice&&Nat.beq esz (aa k)then XL k l (bnd 0 lo) (bnd l.length hi)else .bad| .os id=>bif ti.isSlice then(bif vq then TU esz id lo (ap h id)else XN esz id nx lo hi (ap h id))else .bad|_=>.bad
def ZD (ti:TI):Option SV->Option SV->SV->SV->OR
 |none,some (.v (.int .i64 0)),.v (.int .i64 0),.v (.slice none 0 0) =>bif ti.isSlice then .val (.v (.slice none 0 0))else .bad|_,_,_,_=>.bad
def ZE (ti:TI)(k:Tag)(l:List k.T):Option SV->Option SV->SV->OR
 |none,some (.v (.int .i64 a)),.v (.int .i64 b) =>bif ti.isSlice then .chk (a=(l.length:Int)/\b=(l.length:Int)) (.rc k l)else .bad|_,_,_=>.bad
def El (ti:TI)(lo hi:Option SV)(m:SV):SV->OR
 | .rs k l=>ZE ti k l lo hi m|x=>ZD ti lo hi m x
def Im (kk vk:Tag)(l:List (kk.T×vk.T))(ok:Bool):Option kk.T->OR
 |some x=>bif ok then .val (.tup [svT vk (aq kk vk l x),.b (wL kk vk l x)])else .val (svT vk (aq kk vk l x))|none=>.bad
def lw (a:Tag):Option Tag->Bool
 |some b=>Nat.beq (zK a) (zK b)|none=>false
def In {α:Type}:Option α->Bool
 |none=>true|some _=>false
def Qy (ti:TI)(key:SV)(ok:Bool):Ob->OR
 | .mp kk vk l apj=>bif lw kk ti.mkt&&lw vk ti.mvt&&(!ok||noE apj)then Im kk vk l ok (unT kk key)else .bad|_=>.bad
def TV (key:SV)(ok:Bool):Option Tag->Option Tag->OR
 |some kk,some vk=>Im kk vk [] ok (unT kk key)|_,_=>.bad
def tI (ti:TI)(h:List Ob)(ok:Bool)(key:SV):SV->OR
 | .os id=>Qy ti key ok (ap h id)| .rm kk vk l=>bif lw kk ti.mkt&&lw vk ti.mvt then Im kk vk l ok (unT kk key)else .bad| .v (.map none) =>TV key ok ti.mkt ti.mvt|_=>.bad
def aaK (id:Nat)(kk vk:Tag)(l:List (kk.T×vk.T)):Option kk.T->Option vk.T->OR
 |some x,some y=>.eff True True [(id,.mp kk vk (cH kk vk l x y) none)] .any|_,_=>.bad
def aaL (ti:TI)(id:Nat)(key v:SV):Ob->OR
 | .mp kk vk l p=>bif lw kk ti.mkt&&lw vk ti.mvt&&noE p then aaK id kk vk l (unT kk key) (unT vk v)else .bad|_=>.bad
def Dd (ti:TI)(h:List Ob)(key v:SV):SV->OR
 | .os id=>aaL ti id key v (ap h id)|_=>.bad
def RQ (id nx:Nat)(kk vk:Tag)(l:List (kk.T×vk.T)):Option kk.T->OR
 |some x=>.eff True True [(nx,.fwd none),(id,.mp kk vk l (some (nx,some x)))] (.tup [svT vk (aq kk vk l x),.os nx])|none=>.bad
def RR (ti:TI)(id nx:Nat)(key:SV):Ob->OR
 | .mp kk vk l p=>bif lw kk ti.mkt&&lw vk ti.mvt&&noE p then RQ id nx kk vk l (unT kk key)else .bad|_=>.bad
def yi (ti:TI)(nx:Nat)(h:List Ob)(key:SV):SV->OR
 | .os id=>RR ti id nx key (ap h id)|_=>.bad
def aaM (id:Nat)(kk vk:Tag)(l:List (kk.T×vk.T))(x:kk.T):Option vk.T->OR
 |some y=>.eff True True [(id,.mp kk vk (cH kk vk l x y) none)] .any|none=>.bad
def aaN (ti:TI)(id n:Nat)(v:SV):Ob->OR
 | .mp kk vk l (some (n',some x)) =>bif lw kk ti.mkt&&lw vk ti.mvt&&Nat.beq n' n then aaM id kk vk l x (unT vk v)else .bad|_=>.bad
def JG (ti:TI)(h:List Ob)(v:SV):SV->SV->OR
 | .os id,.os n=>aaN ti id n v (ap h id)|_,_=>.bad
def aaO (id:Nat)(kk vk:Tag)(l:List (kk.T×vk.T)):Option kk.T->OR
 |some x=>.eff True True [(id,.mp kk vk (sq kk vk l x) none)] .any|none=>.bad
def aaP (ti:TI)(id:Nat)(key:SV):Ob->OR
 | .mp kk vk l p=>bif lw kk ti.mkt&&lw vk ti.mvt&&noE p then aaO id kk vk l (unT kk key)else .bad|_=>.bad
def y6 (ti:TI)(h:List Ob):List SV->OR
 | [.os id,key] =>aaP ti id key (ap h id)|_=>.bad
def mmR (nx:Nat):Option Tag->Option Tag->OR
 |some kk,some vk=>.eff True True [(nx,.mp kk vk [] none)] (.os nx)|_,_=>.bad
def zsO (z:List SV):OR:=.val (.tup [.agg z,.b false])
def taS (t:TypeId)(ok:Bool)(ti:TI):SV->OR
 | .v (.iface t' y) =>bif ti.iface then .bad else bif Nat.beq t' t then(bif ok then .val (.tup [.v y,.b true])else .val (.v y))else .bad|_=>.bad
def XO (ti:TI)(nx id:Nat):Ob->OR
 | .mp kk vk l p=>bif lw kk ti.mkt&&lw vk ti.mvt&&noE p then .eff True True [(nx,.mi (some id) l.length (List.range l.length) none),(id,.mp kk vk l (some (nx,none)))] (.ptr nx 0)else .bad|_=>.bad
def Em (ti:TI)(nx:Nat)(h:List Ob):SV->OR
 | .os id=>XO ti nx id (ap h id)|_=>.bad
def TW:SV->OR
 | .ptr id 0=>.nxt id|_=>.bad
def TX (id n j:Nat):Ob->OR
 | .mp kk vk l (some (it,none)) =>bif Nat.beq it id then .chk (n=l.length/\j<n) (.tup [svT kk (l.getD j (eG kk,eG vk)).1,svT vk (l.getD j (eG kk,eG vk)).2])else .bad|_=>.bad
def Qz (h:List Ob)(id:Nat):Ob->OR
 | .mi (some mid) n _ (some j) =>TX id n j (ap h mid)|_=>.bad
def CF (h:List Ob):SV->OR
 | .ptr id 0=>Qz h id (ap h id)|_=>.bad
def opS (cx:Cx):Op->OR
 | .move x=>.val (val cx x)| .assign x=>.val (val cx x)| .pick c a b=>Ef a b (val cx c) (kA cx.ops cx.g c true (raw cx.st.t a)) (kA cx.ops cx.g c false (raw cx.st.t b))
 | .alloc t=>aQ cx.ts t λti=>JB cx.nx (some ti.zero)
 | .box _ x=>JB cx.nx (ph (val cx x))
 | .build t parts=>aQ cx.ts t λti=>
  bif ti.apo then aQ cx.ts ti.elem λte=>Ou (lH (λi=>some (i*te.size,te.size)) ti.zero (iI cx parts.toList))
  else bif ti.agg then Ou (lH (λi=>(nth ti.fields i).map λf=>(f.1,f.2.1)) ti.zero (iI cx parts.toList))
  else .bad
 | .buildSlice t n parts=>aQ cx.ts t λti=>aQ cx.ts ti.elem λte=>Hi (JD t cx.ops cx.g) cx.nx te (bsS ti te n (iI cx parts.toList))
 | .load t a=>aQ cx.ts t λti=>qC ti cx.st.h (val cx a)
 | .store t a x=>aQ cx.ts t λti=>rg ti.size cx.nx cx.st.h (val cx a) (val cx x)
 | .nilCheck x=>TH (val cx x)| .binOp op t x y _=>Jx cx.ts op t (val cx x) (val cx y)| .unOp op _ x=>unS op (val cx x)
 | .convert src dst x=>aQ cx.ts src λ_=>aQ cx.ts dst λti=>LQ ti.int (val cx x)
 | .makeFunc fn first captured=>LU fn (dA cx first.toList) (dA cx captured.toList)
 | .fieldAddr t x f=>aQ cx.ts t λti=>match nth ti.fields f with|some (o,n,_) =>bif Nat.ble 1 n then Bi o (val cx x)else .bad|none=>.bad
 | .field t x f=>aQ cx.ts t λti=>sr (nth ti.fields f) (zP (val cx x))
 | .indexAddr t x i=>aQ cx.ts t λti=>aQ cx.ts ti.elem λte=>ip ti te.size cx.st.h (val cx x) (val cx i)
 | .extract x i=>TO i (val cx x)| .panic x=>TP (val cx x)
 | .makeInterface t x=>aQ cx.ts t λti=>bif ti.iface then .bad else Ei t (val cx x)
 | .makeSlice t n c=>aQ cx.ts t λti=>aQ cx.ts ti.elem λte=>bif ti.isSlice then(bif te.isSlice then aQ cx.ts te.elem λtr=>Hj cx.nx te tr (val cx n) (val cx c)else mkS cx.nx te (val cx n) (val cx c))else .bad
 | .slice t x lo hi none=>aQ cx.ts t λti=>aQ cx.ts ti.elem λte=>mN ti te.size cx.nx cx.st.h (ot cx lo) (ot cx hi) (In hi&&LS cx.ops) (val cx x)
 | .slice t x lo hi (some m) =>aQ cx.ts t λti=>aQ cx.ts ti.elem λ_=>El ti (ot cx lo) (ot cx hi) (val cx m) (val cx x)
 | .makeMap t none=>aQ cx.ts t λti=>mmR cx.nx ti.mkt ti.mvt
 | .lookup t m k ok=>aQ cx.ts t λti=>tI ti cx.st.h ok (val cx k) (val cx m)
 | .mapUpdate t m k v=>aQ cx.ts t λti=>Dd ti cx.st.h (val cx k) (val cx v) (val cx m)
 | .insert t m k v=>aQ cx.ts t λti=>Dd ti cx.st.h (val cx k) (val cx v) (val cx m)
 | .mapEntry t m k=>aQ cx.ts t λti=>yi ti cx.nx cx.st.h (val cx k) (val cx m)
 | .entryStore t m s v=>aQ cx.ts t λti=>JG ti cx.st.h (val cx v) (val cx m) (val cx s)
 | .range t m=>aQ cx.ts t λti=>Em ti cx.nx cx.st.h (val cx m)
 | .next it false=>TW (val cx it)| .entry it=>CF cx.st.h (val cx it)
 | .typeAssert x _ t ok=>aQ cx.ts t λti=>taS t ok ti (val cx x)
 | .call ⟨.value f,args,_⟩ =>zS (dA cx args.toList) (val cx f)
 | .call ⟨.builtin .len,args,tys⟩ =>match tys.toList with| [t] =>aQ cx.ts t λti=>t_ ti cx.st.h (dA cx args.toList) |_=>.bad
 | .call ⟨.builtin .delete,args,tys⟩ =>match tys.toList with|t::_=>aQ cx.ts t λti=>y6 ti cx.st.h (dA cx args.toList) |_=>.bad
 | .call ⟨.builtin .clear,args,tys⟩ =>match tys.toList with| [t] =>aQ cx.ts t λti=>aQ cx.ts ti.elem λte=>y5 ti te cx.st.h (dA cx args.toList) |_=>.bad
 | .call ⟨.builtin .min,args,_⟩ =>JE (dA cx args.toList)| .call ⟨.builtin .max,args,_⟩ =>JF (dA cx args.toList)
 | .call ⟨.builtin .append,args,tys⟩ =>match tys.toList with| [t,t2] =>aQ cx.ts t λti=>aQ cx.ts t2 λti2=>aQ cx.ts ti.elem λte=>bif ti.isSlice&&ti2.isSlice then mv te cx.nx cx.st.h (dA cx args.toList)else .bad|_=>.bad
 |_=>.bad
structure Fp where
 all:List Nat
 rd:List Nat
 wk:List Nat
 tc:List Nat
 wt:List Nat
def fT:SV->List Nat
 | .ptr id _=>[id]| .os id=>[id]| .rp _ id _ _=>[id]| .gr id _=>[id]| .gp _ id _ _ _=>[id]| .vw _ id _ _=>[id]|_=>[]
def JH:SV->List Nat
 | .ls _ [.os id] =>[id]|s=>fT s
def pi:List SV->List Nat
 | [] =>[]|s::r=>JH s++pi r
def TY:Ob->List Nat
 | .mi (some mid) _ _ _=>[mid]|_=>[]
def TZ (h:List Ob):SV->List Nat
 | .ptr id _=>TY (ap h id)|_=>[]
def fpO (cx:Cx):Op->List Nat×List Nat
 | .range _ m=>(fT (val cx m),[])| .entry it=>(fT (val cx it)++TZ cx.st.h (val cx it),[])| .load _ a=>(fT (val cx a),[])| .store _ a x=>(fT (val cx a)++fT (val cx x),[])| .indexAddr _ x _=>(fT (val cx x),[])| .slice _ x _ _ _=>(fT (val cx x),[])| .lookup _ m _ ok=>bif ok then(fT (val cx m),[])else([],fT (val cx m))| .mapUpdate _ m _ _=>(fT (val cx m),[])| .insert _ m _ _=>(fT (val cx m),[])| .mapEntry _ m _=>(fT (val cx m),[])| .entryStore _ m _ _=>(fT (val cx m),[])| .call ⟨.builtin .len,args,_⟩ =>(pi (dA cx args.toList),[])| .call ⟨.builtin .append,args,_⟩ =>(pi (dA cx args.toList),[])| .call ⟨.builtin .delete,args,_⟩ =>(pi (dA cx args.toList),[])| .call ⟨.builtin .clear,args,_⟩ =>(pi (dA cx args.toList),[])|_=>([],[])
def ft:List Up->List Nat
 | [] =>[]|(id,_)::r=>id::ft r
def zU:Op->Bool
 | .mapEntry .. =>true|_=>false
def fpU (o:Op)(x:List Nat×List Nat)(all:List Nat)(ups:List Up):Fp:=
 bif zU o then ⟨all,x.1,x.2,[],ft ups⟩else ⟨all,x.1,x.2,ft ups,[]⟩
def LV (as:List Nat):List Edge->Nat
 | [] =>0|e::r=>bif Region.binds .any e then Nat.lor (Nat.lor ((nth as e.on).getD 0) (Nat.shiftLeft 1 e.on)) (LV as r)else LV as r
def Bj:List Oper->List Nat->List Nat
 | [],as=>as|o::r,as=>Bj r (as++[LV as o.after.toList])
def su (as:List Nat)(i j:Nat):Bool:=Nat.testBit ((nth as i).getD 0) j
def De (n:Nat):List Nat->Bool
 | [] =>false|m::r=>bif Nat.beq m n then true else De n r
def tJ:List Nat->List Nat->Bool
 | [],_=>false|a::r,l=>bif De a l then true else tJ r l
def tK (i e:Fp):Bool:=
 tJ i.all e.tc||tJ i.all e.wt||tJ i.rd e.tc||tJ i.rd e.wt||tJ i.wk e.tc||tJ i.tc e.tc||tJ i.tc e.wt||tJ i.wt e.tc||tJ i.wt e.wt
def LW (as:List Nat)(i:Nat)(x:Fp):Nat->List Fp->Bool
 |_,[] =>true|j,y::r=>(Nat.beq i j|| !(tK x y) ||(Nat.blt j i&&su as i j) ||(Nat.blt i j&&su as j i))&&LW as i x (j+1) r
def QA (as:List Nat)(b:Nat)(all:List Fp):Nat->List Fp->Bool
 |_,[] =>true|i,x::r=>LW as i x b all&&QA as b all (i+1) r
def afC (ops:List Oper)(b:Nat)(fps:List Fp):Bool:=QA (Bj ops []) b fps b fps
def Io:List Fp->Bool
 | [] =>true|x::r=>x.tc.isEmpty&&x.wt.isEmpty&&Io r
def sw (ops:List Oper)(b:Nat)(fps:List Fp):Prop:=bif Io fps then True else afC ops b fps=true
def JI (as:List Nat)(c:Nat):Nat->List Oper->Bool
 |_,[] =>true|i,_::r=>(Nat.beq i c||(Nat.blt i c&&su as c i) ||(Nat.blt c i&&su as i c))&&JI as c (i+1) r
def En (ops:List Oper)(c:Nat):Bool:=JI (Bj ops []) c 0 ops
def dU (ops:List Oper)(t:List (Nat×SV)):Nat->Nat×Bool->Prop
 |0,_=>True
 |n+1,(j,want) =>match (nth ops j).bind (·.dst)with
  |some d=>match lk d t with
   | .v (.bool x) =>x=want| .gd j' b (.v (.bool x)) =>dU ops t n (j',b)/\x=want|_=>True
  |none=>True
def gq (ops:List Oper)(t:List (Nat×SV)):Nat->Nat×Bool->Prop
 |0,_=>True
 |n+1,(j,want) =>match (nth ops j).bind (·.dst)with
  |some d=>match lk d t with
   | .v (.bool x) =>¬x=want| .gd j' b (.v (.bool x)) =>gq ops t n (j',b)\/¬x=want|_=>True
  |none=>True
def wN (ops:List Oper)(t:List (Nat×SV)):Nat->Nat×Bool->Prop
 |0,_=>False
 |n+1,(j,want) =>match (nth ops j).bind (·.dst)with
  |some d=>match lk d t with
   | .v (.bool x) =>¬x=want| .gd j' b (.v (.bool x)) =>wN ops t n (j',b)\/¬x=want|_=>False
  |none=>False
def XP (szt off:Nat)(i:Int):Ob->SV
 | .row k l=>bif Nat.beq szt (aa k)then .ep (cellsOf k (l.getD i.toNat (eG k))) off else .any|_=>.any
def QB (szt off:Nat)(i j:Int):Ob->SV
 | .aoV k l=>bif Nat.beq szt (aa k)then .ep (cellsOf k ((l.getD i.toNat []).getD j.toNat (eG k))) off else .any|_=>.any
def T0 (i:Int):Ob->SV
 | .aoV k l=>.rs k (l.getD i.toNat [])|_=>.any
def frz:Ob->SV
 | .row k l=>.rs k l| .mp kk vk l p=>bif noE p then .rm kk vk l else .any| .aoV k l=>LG k l| .fz k l=>.rs k l|_=>.any
def RS (f:SV->SV)(off:Nat):Ob->SV
 | .cells l=>.ep (l.map f) off|_=>.any
def XQ (s:Nat)(lo hi:Int):Ob->SV
 | .row k l=>bif Nat.beq s (aa k)then .rs k ((l.take hi.toNat).drop lo.toNat)else .any|_=>.any
def gi (h:List Ob):Nat->SV->SV
 |_,.v x=>.v x|_,.rs k l=>.rs k l|_,.rc k l=>.rs k l|_,.e0=>.e0|_,.rm k k2 l=>.rm k k2 l|_,.os id=>frz (ap h id)|_,.vw s id lo hi=>XQ s lo hi (ap h id)|_,.rp s id i off=>bif Nat.beq s 0 then .any else XP s off i (ap h id)|_,.gp s id i j off=>bif Nat.beq s 0 then .any else QB s off i j (ap h id)|_,.gr id i=>T0 i (ap h id)|n+1,.ptr id off=>RS (gi h n) off (ap h id)|n+1,.ep l off=>.ep (l.map (gi h n)) off|n+1,.ls s l=>.ls s (l.map (gi h n))|n+1,.agg l=>.agg (l.map (gi h n))|n+1,.tup l=>.tup (l.map (gi h n))
 |n+1,.fn f first caps=>.fn f (first.map (gi h n)) (caps.map (gi h n))
 |_,_=>.any
def RU (f:SV->List Nat):Ob->List Nat
 | .cells l=>l.flatMap f|_=>[]
def kB (h:List Ob):Nat->SV->List Nat
 |_,.os id=>[id]|_,.rp _ id _ _=>[id]|_,.gp _ id _ _ _=>[id]|_,.gr id _=>[id]|_,.vw _ id _ _=>[id]|n+1,.ptr id _=>id::RU (kB h n) (ap h id)|n+1,.ep l _=>l.flatMap (kB h n)|n+1,.ls _ l=>l.flatMap (kB h n)|n+1,.agg l=>l.flatMap (kB h n)|n+1,.tup l=>l.flatMap (kB h n)
 |n+1,.fn _ first caps=>first.flatMap (kB h n)++caps.flatMap (kB h n)
 |_,_=>[]
def apl:List (Nat×SV)->List (Nat×SV)
 | [] =>[]|(d,.gd ..)::r=>(d,.any)::apl r|x::r=>x::apl r
def dD:Nat->SV->Bool
 |_,.v _=>true|_,.rs _ _=>true|_,.rm _ _ _=>true|_,.e0=>true|_,.rc _ _=>true|_,.any=>true|n+1,.ep l _=>l.all (dD n)|n+1,.ls _ l=>l.all (dD n)|n+1,.agg l=>l.all (dD n)|n+1,.tup l=>l.all (dD n)|n+1,.fn _ l m=>l.all (dD n)&&m.all (dD n)|_,_=>false
def jo:Nat->SV->Bool
 |_,.v _=>true|_,.nw k _=>Nat.beq (aoA k) 0|_,.nm k k2 _=>Nat.beq (aoA k) 0&&Nat.beq (aoA k2) 0|_,.ng k _=>Nat.beq (aoA k) 0|n+1,.agg l=>l.all (jo n)|n+1,.tup l=>l.all (jo n)|_,_=>false
def a6:Nat->SV->List Ob
 |_,.nw k l=>[.row k l]|_,.nm k k2 l=>[.mp k k2 l none]|_,.ng k l=>[.aoV k l]|n+1,.agg l=>l.flatMap (a6 n)|n+1,.tup l=>l.flatMap (a6 n)|_,_=>[]
def rh (f:Nat->SV->SV)(c:SV->Nat):Nat->List SV->List SV
 |_,[] =>[]|b,x::r=>f b x::rh f c (b+c x) r
def jp:Nat->Nat->SV->SV
 |_,b,.nw _ _=>.os b|_,b,.nm _ _ _=>.os b|_,b,.ng _ _=>.os b
 |n+1,b,.agg l=>.agg (rh (jp n) (λs=>(a6 n s).length) b l)
 |n+1,b,.tup l=>.tup (rh (jp n) (λs=>(a6 n s).length) b l)
 |_,_,s=>s
def fG:Nat->SV->List Nat
 |_,.ptr id _=>[id]|_,.os id=>[id]|_,.rp _ id _ _=>[id]|_,.gr id _=>[id]|_,.gp _ id _ _ _=>[id]|_,.vw _ id _ _=>[id]|n+1,.ep l _=>l.flatMap (fG n)|n+1,.ls _ l=>l.flatMap (fG n)|n+1,.agg l=>l.flatMap (fG n)|n+1,.tup l=>l.flatMap (fG n)|n+1,.fn _ l m=>l.flatMap (fG n)++m.flatMap (fG n)|n+1,.gd _ _ s=>fG n s|_,_=>[]
def T3:Ob->List Nat
 | .cells l=>l.flatMap (fG 3)|_=>[]
def reach (h:List Ob):Nat->List Nat->List Nat->List Nat
 |0,_,acc=>acc|_+1,[],acc=>acc|n+1,id::todo,acc=>bif De id acc then reach h n todo acc else reach h n (T3 (ap h id)++todo) (acc++[id])
def y7 (id:Nat):List Nat->Option Nat
 | [] =>none|a::r=>bif Nat.beq a id then some 0 else(y7 id r).map (· +1)
def zV (f:Nat->SV):Option Nat->SV
 |some k=>f k|none=>.any
def ren (m:Nat->Option Nat):Nat->SV->SV
 |_,.ptr id off=>zV (λk=>.ptr k off) (m id)
 |_,.os id=>zV (λk=>.os k) (m id)
 |_,.rp s id i off=>zV (λk=>.rp s k i off) (m id)
 |_,.gr id i=>zV (λk=>.gr k i) (m id)
 |_,.gp s id i j off=>zV (λk=>.gp s k i j off) (m id)
 |_,.vw s id lo hi=>zV (λk=>.vw s k lo hi) (m id)
 |n+1,.ep l o=>.ep (l.map (ren m n)) o|n+1,.ls s l=>.ls s (l.map (ren m n))|n+1,.agg l=>.agg (l.map (ren m n))|n+1,.tup l=>.tup (l.map (ren m n))|n+1,.fn f l l2=>.fn f (l.map (ren m n)) (l2.map (ren m n))|_,.any=>.any|_,.v x=>.v x|_,.e0=>.e0|_,.rc k l=>.rc k l|_,.rs k l=>.rs k l|_,.rm k k2 l=>.rm k k2 l|_,_=>.any
def Ox (kk vk:Tag)(l:List (kk.T×vk.T)):Option kk.T->Option Nat->Ob
 |p,some k=>.mp kk vk l (some (k,p))|some _,none=>.fwd none|none,none=>.mp kk vk l none
def vj (m:Nat->Option Nat):Ob->Ob
 | .cells l=>.cells (l.map (ren m 3))| .mi mid n left cur=>.mi (mid.bind m) n left cur| .fwd n=>.fwd (n.bind m)| .mp kk vk l (some (i,p)) =>Ox kk vk l p (m i)|o=>o
def inN (ids:List Nat)(i:Nat):Option Nat:=y7 i ids
def rK (h:List Ob)(ids:List Nat):List Ob:=ids.map λid=>vj (inN ids) (ap h id)
def rH (ids:List Nat)(b:Nat)(k:Nat):Option Nat:=match nth ids k with|some id=>some id|none=>some (b+(k - ids.length))
def kc (ids:List Nat)(b:Nat)(k:Nat):Nat:=match nth ids k with|some id=>id|none=>b+(k - ids.length)
def mL (ids:List Nat)(b:Nat)(h:List Ob):Nat->List Ob->List Ob
 |_,[] =>h|k,o::r=>mL ids b (cL h (kc ids b k) (vj (rH ids b) o)) (k+1) r
def JJ (ids:List Nat)(d:Option Nat)(st:St)(K:St->Prop)(Z:Value->St->Prop):Rs->Prop
 | .ret s h=>K (St.put ⟨st.t,mL ids st.h.length st.h 0 h⟩ d (ren (rH ids st.h.length) 3 s))| .pan x h=>Z x ⟨apl st.t,mL ids st.h.length st.h 0 h⟩
def RV (ids:List Nat)(g:Nat×Bool)(d:Option Nat)(st:St)(K:St->Prop)(Z:Value->St->Prop):Rs->Prop
 | .ret s h=>K (St.put ⟨st.t,mL ids st.h.length st.h 0 h⟩ d (.gd g.1 g.2 (ren (rH ids st.h.length) 3 s)))| .pan x h=>Z x ⟨apl st.t,mL ids st.h.length st.h 0 h⟩
def yG (ids:List Nat)(d:Option Nat)(st:St)(K:St->Prop)(Z:Value->St->Prop):Option aoJ->Prop
 |some c=>c.pre/\∀ r,c.post r->JJ ids d st K Z (c.res r)|none=>False
def y8 (ids:List Nat)(ops:List Oper)(g:Nat×Bool)(d:Option Nat)(st:St)(K:St->Prop)(Z:Value->St->Prop):Option aoJ->Prop
 |some c=>(dU ops st.t ops.length g->c.pre/\∀ r,c.post r->RV ids g d st K Z (c.res r))/\(gq ops st.t ops.length g->K (st.put d (.gd g.1 g.2 .any)))|none=>wN ops st.t ops.length g/\K (st.put d (.gd g.1 g.2 .any))
def wO (np:Bool)(ids:List Nat)(d:Option Nat)(st:St)(K:St->Prop)(Z:Value->St->Prop)(c:Option aoJ):Option Con->Prop
 |some (.det p s) =>bif np||jo 3 s then(p/\K (St.put ⟨st.t,st.h++a6 3 s⟩ d (jp 3 st.h.length s)))else yG ids d st K Z c
 |some (.rel _ pre post out) =>pre/\(bif np then ∀ r,post r->K (St.put ⟨st.t,st.h++a6 3 (out r)⟩ d (jp 3 st.h.length (out r)))else False)
 |some (.may ok s x) =>bif np||jo 3 s then(ok=true->K (St.put ⟨st.t,st.h++a6 3 s⟩ d (jp 3 st.h.length s)))/\(ok=false->Z x ⟨apl st.t,st.h⟩)else False
 |none=>yG ids d st K Z c
def Eo (np:Bool)(ids:List Nat)(ops:List Oper)(g:Nat×Bool)(d:Option Nat)(st:St)(K:St->Prop)(Z:Value->St->Prop)(c:Option aoJ):Option Con->Prop
 |some (.det p s) =>(dU ops st.t ops.length g->p)/\(bif(np||jo 3 s)&&(a6 3 s).isEmpty then K (st.put d (.gd g.1 g.2 s))else False)|none=>y8 ids ops g d st K Z c|_=>False
def Oy (id:Nat)(d:Option Nat)(st:St)(K:St->Prop):Option apR->Prop
 |some c=>c.pre/\∀ r,c.post r->K (St.put ⟨st.t,cL st.h id (.ab (c.res r).2)⟩ d (.b (c.res r).1))|none=>False
def LX (id:Nat)(ops:List Oper)(g:Nat×Bool)(d:Option Nat)(st:St)(K:St->Prop):Option apR->Prop
 |some c=>(dU ops st.t ops.length g->c.pre/\∀ r,c.post r->K (St.put ⟨st.t,cL st.h id (.ab (c.res r).2)⟩ d (.gd g.1 g.2 (.b (c.res r).1))))/\(gq ops st.t ops.length g->K (st.put d (.gd g.1 g.2 .any)))|none=>False
def JK (G:Cons)(args:List SV):Ob->Option apR
 | .ab r=>G.y args r|_=>none
def T4 (id mid n:Nat)(left:List Nat)(d:Option Nat)(st:St)(next:St->Prop):Ob->Prop
 | .mp kk vk l (some (it,none)) =>(it=id/\n=l.length)/\(left=[]->next (st.put d (.tup [.v (.bool false)])))/\
   ∀ j,j∈left->next (St.put ⟨st.t,cL st.h id (.mi (some mid) n (left.erase j) (some j))⟩ d (.tup [.v (.bool true),svT kk (l.getD j (eG kk,eG vk)).1,svT vk (l.getD j (eG kk,eG vk)).2]))
 |_=>False
def XR (id:Nat)(d:Option Nat)(st:St)(next:St->Prop):Ob->Prop
 | .mi (some mid) n left _=>T4 id mid n left d st next (ap st.h mid)|_=>False
def lI (G:Cons)(d:Option Nat)(st:St)(next:St->Prop)(Z:Value->St->Prop):OR->Prop
 | .val s=>next (st.put d s)| .chk c s=>c/\next (st.put d s)| .asm c s=>c->next (st.put d s)| .apm s=>next (st.put d s)| .eff c a ups s=>c/\(a->next (St.put ⟨st.t,bf st.h ups⟩ d s))| .call f args=>wO (args.all (dD 3)) (reach st.h 64 (args.flatMap (fG 3)) []) d st next Z (G.o f (args.map (ren (inN (reach st.h 64 (args.flatMap (fG 3)) [])) 6)) (rK st.h (reach st.h 64 (args.flatMap (fG 3)) []))) (G.p f (args.map (gi st.h 6)))| .yld id args=>bif args.all (dD 3)then Oy id d st next (JK G args (ap st.h id))else False| .nxt id=>XR id d st next (ap st.h id)| .amb p=>∀ b,p b->next (st.put d (.v (.bool b)))| .pan x=>Z x ⟨apl st.t,st.h⟩| .bad=>False
def stepG (G:Cons)(ops:List Oper)(g:Nat×Bool)(d:Option Nat)(st:St)(next:St->Prop)(Z:Value->St->Prop):OR->Prop
 | .val s=>next (st.put d (.gd g.1 g.2 s))| .chk c s=>(dU ops st.t ops.length g->c)/\next (st.put d (.gd g.1 g.2 s))| .asm _ s=>next (st.put d (.gd g.1 g.2 s))| .apm s=>next (st.put d (.gd g.1 g.2 s))| .eff c a ups s=>(dU ops st.t ops.length g->c/\(a->next (St.put ⟨st.t,bf st.h ups⟩ d (.gd g.1 g.2 s))))/\(gq ops st.t ops.length g->next (st.put d (.gd g.1 g.2 .any)))| .call f args=>Eo (args.all (dD 3)) (reach st.h 64 (args.flatMap (fG 3)) []) ops g d st next Z (G.o f (args.map (ren (inN (reach st.h 64 (args.flatMap (fG 3)) [])) 6)) (rK st.h (reach st.h 64 (args.flatMap (fG 3)) []))) (G.p f (args.map (gi st.h 6)))| .yld id args=>bif args.all (dD 3)then LX id ops g d st next (JK G args (ap st.h id))else False| .bad=>wN ops st.t ops.length g/\next (st.put d (.gd g.1 g.2 .any))| .nxt _=>False| .amb _=>False| .pan _=>False
def jq (ts:Tis)(G:Cons)(ops:List Oper):List Oper->St->(St->Prop)->(Value->St->Prop)->Prop
 | [],st,K,_=>K st
 |o::rest,st,K,Z=>match o.guard with
  |none=>lI G o.dst st (λst'=>jq ts G ops rest st' K Z) Z (opS ⟨ts,ops,none,st,st.h.length⟩ o.op)
  |some g=>stepG G ops g o.dst st (λst'=>jq ts G ops rest st' K Z) Z (opS ⟨ts,ops,some g,st,st.h.length⟩ o.op)
structure Dr where
 c:Prop
 a:Prop
 s:SV
 ups:List Up
 all:List Nat
def drR (np:Bool)(rd:List Nat)(nx:Nat)(p:Prop)(s:SV):List Ob->Option Dr
 | [] =>bif np||jo 3 s then some ⟨p,True,s,[],rd⟩else none
 | [ob] =>bif np||jo 3 s then some ⟨p,True,jp 3 nx s,[(nx,ob)],rd⟩else none
 |_=>none
def drC (np:Bool)(rd:List Nat)(nx:Nat):Option Con->Option Dr
 |some (.det p s) =>drR np rd nx p s (a6 3 s)|_=>none
def jR (G:Cons)(h:List Ob)(nx:Nat):OR->Option Dr
 | .val s=>some ⟨True,True,s,[],[]⟩| .chk c s=>some ⟨c,True,s,[],[]⟩| .asm c s=>some ⟨True,c,s,[],[]⟩| .apm s=>some ⟨True,True,s,[],[]⟩| .eff c a ups s=>some ⟨c,a,s,ups,[]⟩| .call f args=>drC (args.all (dD 3)) (args.flatMap (kB h 6)) nx (G.p f (args.map (gi h 6)))| .bad=>some ⟨False,True,.any,[],[]⟩|_=>none
def drN (d:Option Nat)(st:St)(next:List Nat->List Up->St->Prop)(r:Dr):Prop:=r.c/\(r.a->next r.all r.ups (St.put ⟨st.t,bf st.h r.ups⟩ d r.s))
def drG (ops:List Oper)(g:Nat×Bool)(d:Option Nat)(st:St)(next:List Nat->List Up->St->Prop)(r:Dr):Prop:=
 bif r.ups.isEmpty then(dU ops st.t ops.length g->r.c)/\next r.all [] (st.put d (.gd g.1 g.2 r.s))
 else ¬ (dU ops st.t ops.length g/\gq ops st.t ops.length g)/\(dU ops st.t ops.length g->r.c/\(r.a->next r.all r.ups (St.put ⟨st.t,bf st.h r.ups⟩ d (.gd g.1 g.2 r.s))))/\(gq ops st.t ops.length g->next r.all [] (st.put d (.gd g.1 g.2 r.s)))
def y9 (d:Option Nat)(st:St)(next:List Nat->List Up->St->Prop)(aqO:Prop):Option Dr->Prop
 |some r=>drN d st next r|none=>aqO
def wP (ops:List Oper)(g:Nat×Bool)(d:Option Nat)(st:St)(next:List Nat->List Up->St->Prop)(aqO:Prop):Option Dr->Prop
 |some r=>drG ops g d st next r|none=>aqO
def jV (ts:Tis)(G:Cons)(ops:List Oper)(K:St->Prop)(Z:Value->St->Prop):List Oper->(i b:Nat)->List Fp->St->Prop
 | [],_,b,fps,st=>sw ops b fps/\K st
 |o::rest,i,b,fps,st=>match o.guard with
  |none=>y9 o.dst st (λall ups st'=>jV ts G ops K Z rest (i+1) b (fps++[fpU o.op (fpO ⟨ts,ops,none,st,st.h.length⟩ o.op) all ups]) st')
    (sw ops b fps/\En ops i=true/\lI G o.dst st (λst'=>jV ts G ops K Z rest (i+1) (i+1) [] st') Z (opS ⟨ts,ops,none,st,st.h.length⟩ o.op))
    (jR G st.h st.h.length (opS ⟨ts,ops,none,st,st.h.length⟩ o.op))
  |some g=>wP ops g o.dst st (λall ups st'=>jV ts G ops K Z rest (i+1) b (fps++[fpU o.op (fpO ⟨ts,ops,some g,st,st.h.length⟩ o.op) all ups]) st')
    (sw ops b fps/\En ops i=true/\stepG G ops g o.dst st (λst'=>jV ts G ops K Z rest (i+1) (i+1) [] st') Z (opS ⟨ts,ops,some g,st,st.h.length⟩ o.op))
    (jR G st.h st.h.length (opS ⟨ts,ops,some g,st,st.h.length⟩ o.op))
def aaQ (id:Nat):Ob->SV
 | .fwd (some n) =>.os n|_=>.os id
def T5 (h:List Ob):SV->SV
 | .os id=>aaQ id (ap h id)|s=>s
def Oz (h:List Ob):List (Nat×SV)->List (Nat×SV)
 | [] =>[]|(d,s)::r=>(d,T5 h s)::Oz h r
def QC:Ob->Bool
 | .fwd (some _) =>true|_=>false
def ou:List Ob->Bool
 | [] =>false
 |o::r=>QC o||ou r
def aaR:Ob->Ob
 | .fwd _=>.dead|o=>o
def yH:List Ob->List Ob
 | [] =>[]|o::r=>aaR o::yH r
def apS (st:St):St:=bif ou st.h then ⟨Oz st.h st.t,yH st.h⟩else st
def wQ (ops:List Oper)(st:St):St:=apS (bif ops.any (·.guard.isSome)then ⟨apl st.t,st.h⟩else st)
inductive Ex where
 |normal
 |exit (id:Nat)
 |ret
 |pan (x:Value)
def Ex.then (K:St->Prop)(Q:Ex->St->Prop):Ex->St->Prop
 | .normal,st=>K st|e,st=>Q e st
def Ex.block (id:Nat)(Q:Ex->St->Prop):Ex->St->Prop
 | .exit j,st=>bif Nat.beq j id then Q .normal st else Q (.exit j) st|e,st=>Q e st
def zW (x y:Prop):SV->Prop
 | .v (.bool b) =>(b=true->x)/\(b=false->y)|_=>False
structure apc where
 α:Type
 pre:Prop
 post:α->Prop
 ex:α->Ex
 out:α->St
abbrev wc:=Nat->St->Option apc
def rI (Q:Ex->St->Prop):Option apc->Prop
 |some c=>c.pre/\∀ r,c.post r->Q (c.ex r) (c.out r)|none=>False
def T6:Operand->Nat
 | .tmp n=>n+1000000|_=>0
def apV (t:List (Nat×SV)):List (Nat×SV)->Prop
 | [] =>True|(n,s)::r=>lk n t=s/\apV t r
def inJ (d:St):Ex->St->Prop
 | .normal,st=>st.h=d.h/\apV st.t d.t|_,_=>False
def T7 (x y:(Ex->St->Prop)->Prop)(Q:Ex->St->Prop)(s:SV)(c:apc):Prop:=
 zW (x λe st=>∃ r,c.post r/\inJ (c.out r) e st) (y λe st=>∃ r,c.post r/\inJ (c.out r) e st) s/\∀ r,c.post r->Q .normal (c.out r)
def Ep (x y:(Ex->St->Prop)->Prop)(Q:Ex->St->Prop)(s:SV):Option apc->Prop
 |none=>zW (x Q) (y Q) s|some c=>T7 x y Q s c
def JC (d:St):apc:=⟨Unit,True,λ_=>True,λ_=>.normal,λ_=>d⟩
def afD (c:apc)(Q:Ex->St->Prop):Ex->St->Prop
 | .normal,st=>∃ r,c.post r/\inJ (c.out r) .normal st|e,st=>Q e st
def inC (d:St)(Q:Ex->St->Prop):Ex->St->Prop
 | .normal,st=>inJ d .normal st|e,st=>Q e st
def arU (x:(Ex->St->Prop)->Prop)(Q:Ex->St->Prop)(c:apc):Prop:=x (afD c Q)/\∀ r,c.post r->Q .normal (c.out r)
def Er (x:(Ex->St->Prop)->Prop)(Q:Ex->St->Prop):Option apc->Prop
 |none=>x Q|some c=>arU x Q c
def CG (ts:Tis)(G:Cons)(ops:Array Oper)(d:Bool)(st:St)(Q:Ex->St->Prop):Prop:=
 bif d then jV ts G ops.toList (λst'=>Q .normal (wQ ops.toList st')) (λx st'=>Q (.pan x) st') ops.toList 0 0 [] st
   else jq ts G ops.toList ops.toList st (λst'=>Q .normal (wQ ops.toList st')) (λx st'=>Q (.pan x) st')
def exec (ts:Tis)(G:Cons)(L:wc):Code->St->(Ex->St->Prop)->Prop
 | .skip,st,Q=>Q .normal st| .region id ops d,st,Q=>Er (CG ts G ops d st) Q (L (id+2000000) st)
 | .seq a b,st,Q=>exec ts G L a st (Ex.then (λst'=>exec ts G L b st' Q) Q)
 | .cond c x y,st,Q=>Ep (exec ts G L x st) (exec ts G L y st) Q (raw st.t c) (L (T6 c) st)| .block id (.loop _),st,Q=>rI Q (L id st)| .block id (.rangeFunc ..),st,Q=>rI Q (L id st)| .block id c,st,Q=>exec ts G L c st (Ex.block id Q)| .exit id,st,Q=>Q (.exit id) st| .ret,st,Q=>Q .ret st| .scope c,st,Q=>exec ts G L c st Q| .label _,st,Q=>Q .normal st|_,_,_=>False
def XS:OR->Option SV
 | .val s=>some s|_=>none
def RW (ts:Tis)(st:St):ResultVar->Option SV
 | .tmp n=>some (lk n st.t)
 | .cell q t=>XS (aQ ts t λti=>qC ti st.h (lk q st.t))
def LY:Option SV->Option (List SV)->Option (List SV)
 |some s,some l=>some (s::l)|_,_=>none
def ri (ts:Tis)(st:St):List ResultVar->Option (List SV)
 | [] =>some []|x::r=>LY (RW ts st x) (ri ts st r)
def tA:Option (List SV)->Option SV
 |some [s] =>some s|some l=>some (.tup l)|none=>none
def afE (h:List Ob):Option SV->Option SV
 |some s=>some (gi h 4 s)|none=>none
def Es (rs:List ResultVar)(ts:Tis)(st:St):Option SV:=afE st.h (tA (ri ts st rs))
def wR:Ob->SV
 | .row k l=>.nw k l| .mp k k2 l none=>.nm k k2 l| .aoV k l=>.ng k l|_=>.any
def yI (h:List Ob):Nat->SV->SV
 |_,.os id=>wR (ap h id)|n+1,.agg l=>.agg (l.map (yI h n))|n+1,.tup l=>.tup (l.map (yI h n))|_,.v x=>.v x|_,.rs k l=>.rs k l|_,.rm k k2 l=>.rm k k2 l|_,.e0=>.e0|n,s=>bif dD n s then s else .any
def vn:Nat->SV->List Nat
 |_,.os id=>[id]|n+1,.agg l=>l.flatMap (vn n)|n+1,.tup l=>l.flatMap (vn n)|_,_=>[]
def uniq:List Nat->Bool
 | [] =>true|a::r=>!(De a r)&&uniq r
def CH (h:List Ob)(s:SV):Option SV:=bif uniq (vn 3 s)&&(vn 3 s).all (λi=>Nat.blt i h.length)then some (yI h 3 s)else none
def ZF (h:List Ob):Option SV->Option SV
 |some s=>CH h s|none=>none
def RX (rs:List ResultVar)(ts:Tis)(st:St):Option SV:=ZF st.h (tA (ri ts st rs))
def Et (m:Bool)(rs:List ResultVar)(ts:Tis)(st:St):Option SV:=bif m then RX rs ts st else Es rs ts st
def DO (ops:List Oper)(i:Nat)(o:Oper):Bool:=
 match o.guard with
 |none=>true
 |some (j,_) =>Nat.blt j i&&(match (nth ops j).bind (·.dst)with
  |some d=>(List.range ops.length).all λk=>Nat.beq k j||(match (nth ops k).bind (·.dst)with|some e=>!(Nat.beq d e) |none=>true)
  |none=>false)
def T8 (N:Nat)(ops:List Oper):Bool:=
 (List.range ops.length).all λi=>match nth ops i with
  |some o=>(match o.dst with|some d=>Nat.blt d N|none=>true)&&DO ops i o
  |none=>true
def pl (o:Oper)(k:Nat):Bool:=o.after.toList.any λe=>Nat.beq e.on k&&Region.binds .any e
def OA (ops:Array Oper):Bool:=
 (List.range ops.size).all λi=>match nth ops.toList i with
  |some o=>
   (o.after.toList.all λe=>!(Region.binds .any e) ||Nat.blt e.on i)&&
   (List.range ops.size).all λk=>match nth ops.toList k with
    |some q=>match q.dst with
     |some d=>(Nat.beq k i|| !(o.dst==some d))&&(!((o.looksAt ops).contains d) ||Nat.beq k i||(Nat.blt k i&&pl o k) ||(Nat.blt i k&&pl q i))|none=>true
    |none=>true
  |none=>true
def c7 (N:Nat):Code->Bool
 | .region _ ops d=>T8 N ops.toList&&(!d||OA ops)| .seq a b=>c7 N a&&c7 N b| .cond _ a b=>c7 N a&&c7 N b| .block _ c=>c7 N c| .loop c=>c7 N c| .scope c=>c7 N c| .rangeFunc _ _ a b=>c7 N a&&c7 N b|_=>true
def mM:Nat->Nat->SV->Bool
 |_,_,.v _=>true|_,_,.rs _ _=>true|_,_,.rm _ _ _=>true|_,_,.any=>true|_,_,.e0=>true|_,_,.rc _ _=>true|_,n,.ptr id _=>Nat.blt id n|_,n,.os id=>Nat.blt id n|_,n,.rp _ id _ _=>Nat.blt id n|_,n,.gr id _=>Nat.blt id n|_,n,.gp _ id _ _ _=>Nat.blt id n|_,n,.vw _ id _ _=>Nat.blt id n|f+1,n,.ep l _=>l.all (mM f n)|f+1,n,.ls _ l=>l.all (mM f n)|f+1,n,.agg l=>l.all (mM f n)|f+1,n,.tup l=>l.all (mM f n)|f+1,n,.fn _ l m=>l.all (mM f n)&&m.all (mM f n)|_,_,_=>false
def RY (m:Nat->Option Nat)(n:Nat)(t:List (Nat×SV)):List (Nat×SV)->Prop
 | [] =>True|(i,s)::r=>(lk i t=ren m 5 s/\mM 5 n s=true)/\RY m n t r
def dL:Ob->Bool
 | .dead=>true|_=>false
def wd (n:Nat):Ob->Bool
 | .cells l=>l.all (mM 3 n)| .mi (some i) _ _ _=>Nat.blt i n| .fwd (some i) =>Nat.blt i n| .mp _ _ _ (some (i,_)) =>Nat.blt i n|_=>true
def unp {κ:Type}:Option (Nat×Option κ)->Option (Nat×Option κ)
 |some (_,none) =>none|p=>p
def QD:SV->Bool
 | .any=>true|_=>false
def wkL:List SV->List SV->List SV
 |a::r,x::s=>(bif QD a then .any else x)::wkL r s|_,s=>s
def Eu:Ob->Ob->Ob
 | .mp _ _ _ none,.mp kk vk l p=>.mp kk vk l (unp p)| .cells a,.cells l=>.cells (wkL a l)|_,o=>o
def JM (m:Nat->Option Nat)(n:Nat)(h:List Ob)(j:Nat)(o:Ob):Prop:=bif dL o then True else Eu o (ap h j)=vj m o/\wd n o=true
def Hk (m:Nat->Option Nat)(n:Nat)(h:List Ob):List Nat->List Ob->Prop
 | [],[] =>True|j::js,o::r=>JM m n h j o/\Hk m n h js r|_,_=>False
def mw:List Nat->List Ob->List Nat
 |j::js,o::r=>bif dL o then mw js r else j::mw js r|_,_=>[]
def Bk:Nat->List Nat->Nat->Bool
 |_,[],_=>true|i,j::js,n=>(Nat.beq i j||Nat.ble n i)&&Bk (i+1) js n
def Ev (js:List Nat)(i:Nat):Option Nat:=nth js i
def Sub (js:List Nat)(n0:Nat)(st st2:St):Prop:=
 (uniq (mw js st2.h)=true/\Bk 0 js n0=true/\js.all (λj=>Nat.blt j st.h.length)=true)/\RY (Ev js) st2.h.length st.t st2.t/\Hk (Ev js) st2.h.length st.h js st2.h
def vo {σ:Type}(D:σ->St)(I:σ->Prop)(m:σ->Nat)(n0:Nat)(x:σ)(id:Nat)(Q:Ex->St->Prop):Ex->St->Prop
 | .normal,st=>∃ y js,I y/\m y<m x/\n0<=(D y).h.length/\Sub js n0 st (D y)| .exit j,st=>bif Nat.beq j id then Q .normal st else Q (.exit j) st| .ret,st=>Q .ret st| .pan x,st=>Q (.pan x) st
def nY:Nat->List SV->List (Nat×SV)
 |_,[] =>[]|n,s::r=>(n,s)::nY (n+1) r
def iP (post:SV->Prop):Option SV->Prop
 |some s=>post s|none=>False
def Ew (m:Bool)(rs:List ResultVar)(ts:Tis)(post:SV->Prop)(pp:Value->Prop):Ex->St->Prop
 | .exit _,_=>False| .normal,st=>iP post (Et m rs ts st)| .ret,st=>iP post (Et m rs ts st)| .pan x,_=>pp x
def Ey (n0:Nat)(C:aoJ):Option SV->List Ob->Prop
 |some s,h=>∃ r s' h' js,C.post r/\C.res r=.ret s' h'/\n0<=h'.length/\Sub js n0 ⟨[(0,s)],h⟩ ⟨[(0,s')],h'⟩|none,_=>False
def LZ (n0:Nat)(rs:List ResultVar)(ts:Tis)(C:aoJ):Ex->St->Prop
 | .exit _,_=>False| .normal,st=>Ey n0 C (tA (ri ts st rs)) st.h| .ret,st=>Ey n0 C (tA (ri ts st rs)) st.h| .pan x,st=>∃ r h' js,C.post r/\C.res r=.pan x h'/\n0<=h'.length/\Sub js n0 ⟨[],st.h⟩ ⟨[],h'⟩
structure Hd where
 p:Option Nat:=none
 v:Value:=undef
 vs:List Value:=[]
 bs:List Nat:=[]
abbrev Own:=Nat->Option Hd
def dg (F:Nat->Prop)(own:Own)(b:Nat):Prop:=F b\/∃ id hd,own id=some hd/\b∈hd.bs
def dF:Own:=λ_=>none
def Hd.like (a b:Hd):Prop:=b.p=a.p/\b.v=a.v/\b.vs=a.vs
theorem Hd.like.refl (a:Hd):a.like a:=⟨rfl,rfl,rfl⟩
theorem Hd.like.trans {a b c:Hd}(h:a.like b)(h':b.like c):a.like c:=⟨h'.1.trans h.1,h'.2.1.trans h.2.1,h'.2.2.trans h.2.2⟩
def pt:Value->Bool
 | .agg _=>false| .tuple _=>false|_=>true
variable {v:Value}
theorem Ez(h:pt v=true):v.cells= #[v]:=by cases v <;>first|rfl|simp[pt]at h
theorem my(h:pt v=true):v.oneCell'=true:=by cases v <;>first|rfl|simp[pt]at h
def aaS (x:Value)(sz:Nat)(lo hi:Int)(a:Option Addr):Prop:=hi.toNat<=lo.toNat\/∃ b o n cap,x=.slice (some ⟨b,o,none⟩) n cap/\hi.toNat<=n/\a=some ⟨b,o+lo.toNat*sz,none⟩
inductive Rel (F:Nat->Prop)(own:Own)(w:World):SV->Value->Prop where
 |any (v:Value):Rel F own w .any v
 |v (x:Value):Rel F own w (.v x) x
 |ptr {id off b:Nat} {hd:Hd}:own id=some hd->hd.p=some b->Rel F own w (.ptr id off) (.pointer (some ⟨b,off,none⟩))
 |os {id:Nat} {hd:Hd}:own id=some hd->pt hd.v=true->Rel F own w (.os id) hd.v
 |e0 {a:Option Addr}:Rel F own w .e0 (.slice a 0 0)
 |rc {k:Tag} {l:List k.T} {a:Option Addr}:Rel F own w (.rs k l) (.slice a l.length l.length)->Rel F own w (.rc k l) (.slice a l.length l.length)
 |rp {sz id off n cap b o:Nat} {i:Int} {hd:Hd}:own id=some hd->hd.v=.slice (some ⟨b,o,none⟩) n cap->i.toNat<n->Rel F own w (.rp sz id i off) (.pointer (some ⟨b,o+i.toNat*sz+off,none⟩))
 |gr {id:Nat} {i:Int} {v:Value} {hd:Hd}:own id=some hd->hd.vs[i.toNat]? =some v->pt v=true->Rel F own w (.gr id i) v
 |gp {sz id off n cap b o:Nat} {i j:Int} {hd:Hd}:own id=some hd->hd.vs[i.toNat]? =some (.slice (some ⟨b,o,none⟩) n cap)->j.toNat<n->Rel F own w (.gp sz id i j off) (.pointer (some ⟨b,o+j.toNat*sz+off,none⟩))
 |vw {sz id cap:Nat} {lo hi:Int} {hd:Hd} {a:Option Addr}:own id=some hd->aaS hd.v sz lo hi a->hi.toNat - lo.toNat<=cap->Rel F own w (.vw sz id lo hi) (.slice a (hi.toNat - lo.toNat) cap)
 |ep {cells:List SV} {off b o:Nat} (c:Nat->Value):
   (∀ j s,cells[j]? =some s->¬dg F own b/\w.cell? ⟨b,o+j,none⟩=some (c j))->(∀ j s,cells[j]? =some s->Rel F own w s (c j))->
   Rel F own w (.ep cells off) (.pointer (some ⟨b,o+off,none⟩))
 |rs {k:Tag} {l:List k.T} {b o cap:Nat} (c:Nat->Nat->Value):l.length<=cap->l.length<=aN->
   (∀ (i:Nat) (x:k.T),l[i]? =some x->∀ (j:Nat) (s:SV),(cellsOf k x)[j]? =some s->¬dg F own b/\w.cell? ⟨b,o+i*aa k+j,none⟩=some (c i j))->
   (∀ (i:Nat) (x:k.T),l[i]? =some x->∀ (j:Nat) (s:SV),(cellsOf k x)[j]? =some s->Rel F own w s (c i j))->
   Rel F own w (.rs k l) (.slice (some ⟨b,o,none⟩) l.length cap)
 |rs0 {k:Tag} {a:Option Addr} {cap:Nat}:Rel F own w (.rs k []) (.slice a 0 cap)
 |ls {z n:Nat} {l:List SV} {b o cap:Nat} (c:Nat->Value):n*z=l.length->n<=cap->
   (∀ j s,l[j]? =some s->¬dg F own b/\w.cell? ⟨b,o+j,none⟩=some (c j))->(∀ j s,l[j]? =some s->Rel F own w s (c j))->
   Rel F own w (.ls z l) (.slice (some ⟨b,o,none⟩) n cap)
 |rm {kk vk:Tag} {l:List (kk.T×vk.T)} {b:Nat} (ck cv:Nat->Value) (es:Array MapEntry) (clock:Nat):¬dg F own b->w.heap[b]? =some (.map es clock)->es.size=l.length->
   (∀ (i:Nat) (x:kk.T×vk.T),l[i]? =some x->∃ n,es[i]? =some ⟨ck i,cv i,n⟩)->
   (∀ (i:Nat) (x:kk.T×vk.T),l[i]? =some x->Rel F own w (svT kk x.1) (ck i))->(∀ (i:Nat) (x:kk.T×vk.T),l[i]? =some x->Rel F own w (svT vk x.2) (cv i))->
   Rel F own w (.rm kk vk l) (.map (some b))
 |rm0 {kk vk:Tag}:Rel F own w (.rm kk vk []) (.map none)
 |agg {l:List SV} {vs:Array Value}:vs.size=l.length->(∀ (j:Nat) (s:SV),l[j]? =some s->Rel F own w s (vs.getD j undef))->Rel F own w (.agg l) (.agg vs)
 |tup {l:List SV} {vs:Array Value}:vs.size=l.length->(∀ (j:Nat) (s:SV),l[j]? =some s->Rel F own w s (vs.getD j undef))->Rel F own w (.tup l) (.tuple vs)
 |fn {f:FuncId} {first caps:List SV} {us vs:Array Value}:us.size=first.length->vs.size=caps.length->(∀ (j:Nat) (s:SV),first[j]? =some s->Rel F own w s (us.getD j undef))->
   (∀ (j:Nat) (s:SV),caps[j]? =some s->Rel F own w s (vs.getD j undef))->Rel F own w (.fn f first caps) (.func (.func f) us vs)
structure ao_ (F:Nat->Prop)(own:Own)(w:World)(ee:Own)(w':World):Prop where
 ids:∀ (id:Nat) (hd:Hd),own id=some hd->∃ hd',ee id=some hd'/\hd.like hd'
 keep:∀ b,b<w.heap.size->¬dg F own b->¬dg F ee b/\w'.heap[b]? =w.heap[b]?
 size:w.heap.size<=w'.heap.size
structure Bs where
 w:World
 own:Own:=dF
 ds:List Deferred:=[]
def Old (B:Bs)(b:Nat):Prop:=b<B.w.heap.size/\¬ ∃ id hd,B.own id=some hd/\b∈hd.bs
structure Fr (B:Bs)(own:Own)(w:World):Prop where
 ids:∀ (id:Nat) (hd:Hd),B.own id=some hd->∃ hd',own id=some hd'/\hd.like hd'
 base:∀ (id:Nat) (hd:Hd) (b:Nat),own id=some hd->b∈hd.bs->¬Old B b
 os:w.os=B.w.os
 tape:w.tape=B.w.tape
 output:w.output=B.w.output
 size:B.w.heap.size<=w.heap.size
 block:∀ k,Old B k->w.heap[k]? =B.w.heap[k]?
theorem Fr.refl (B:Bs):Fr B B.own B.w:=⟨λ_ hd h=>⟨hd,h,.refl _⟩,λid hd _ h O E=>E.2 ⟨id,hd,h,O⟩,rfl,rfl,rfl,ak2 _,λ_ _=>rfl⟩
variable {B:Bs}{w w':World}
theorem Fr.below{own:Own}(h:Fr B own w)(E:Below w.heap.size w w'):Fr B own w':=
 ⟨h.ids,h.base,E.os.trans h.os,E.tape.trans h.tape,E.output.trans h.output,ald h.size E.size,λk O=>(E.block k (ale O.1 h.size)).trans (h.block k O)⟩
theorem Fr.drew{own:Own}(h:Fr B own w):Fr B own { w with drawn:=w.drawn+1}:=⟨h.ids,h.base,h.os,h.tape,h.output,h.size,h.block⟩
variable {ee:Own}
theorem Fr.trans{own:Own}(h:Fr B own w)(h':Fr { w:=w,own:=own} ee w'):Fr B ee w':=by
 have E:∀ k,Old B k->Old { w:=w,own:=own} k:=λk O=>⟨ale O.1 h.size,λ⟨id,hd,hm,W⟩ =>h.base id hd k hm W O⟩;refine⟨λid hd hi=>?_,λid hd b hi W ho=>h'.base id hd b hi W (E b ho),h'.os.trans h.os,h'.tape.trans h.tape,h'.output.trans h.output,ald h.size h'.size,
  λk O=>(h'.block k (E k O)).trans (h.block k O)⟩
 obtain⟨X,Y,l1⟩:=h.ids id hd hi;obtain⟨V,e2,l2⟩:=h'.ids id X Y;exact⟨V,e2,l1.trans l2⟩
variable {F:Nat->Prop}
theorem Fr.apg{own:Own}(h:Fr { w:=w,own:=own} ee w'):ao_ F own w ee w':=
 ⟨h.ids,λb W hn=>by
  have V:Old { w:=w,own:=own} b:=⟨W,λ⟨id,hd,O,E⟩ =>hn (.inr ⟨id,hd,O,E⟩)⟩;refine⟨?_,h.block b V⟩;rintro (X| ⟨id,hd,O,E⟩);exact hn (.inl X);exact h.base id hd b O E V,h.size⟩
theorem Fr.apr{own:Own}(ids:∀ (id:Nat) (hd:Hd),own id=some hd->∃ hd',ee id=some hd'/\hd.like hd')
  (bs:∀ id hd b,ee id=some hd->b∈hd.bs->(∃ E hd',own E=some hd'/\b∈hd'.bs)\/w.heap.size<=b)
  (block:∀ b,b<w.heap.size->(¬ ∃ id hd,own id=some hd/\b∈hd.bs)->w'.heap[b]? =w.heap[b]?) (size:w.heap.size<=w'.heap.size)
  (os:w'.os=w.os) (tape:w'.tape=w.tape) (output:w'.output=w.output):Fr { w:=w,own:=own} ee w':=
 ⟨ids,λid hd b h1 h2 O=>by
  rcases bs id hd b h1 h2 with h|h;exact O.2 h;have:=O.1;grind,os,tape,output,size,λk V=>block k V.1 V.2⟩
def JN{b o:Nat}(h:w.cell? ⟨b,o,none⟩=some v):b<w.heap.size:=World.block_lt_of_cell? w _ h
theorem ut{b:Nat}(h:w'.heap[b]? =w.heap[b]?)(o:Nat):w'.cell? ⟨b,o,none⟩=w.cell? ⟨b,o,none⟩:=by
 grind [World.cell?]
theorem rL{b:Nat}{o:Obj}(h:w.heap[b]? =some o):b<w.heap.size:=by
 grind
structure aoZ (F:Nat->Prop)(own:Own)(w:World)(F':Nat->Prop)(ee:Own)(w':World):Prop where
 ids:∀ (id:Nat) (hd:Hd),own id=some hd->∃ hd',ee id=some hd'/\hd.like hd'
 keep:∀ b,b<w.heap.size->¬dg F own b->¬dg F' ee b/\w'.heap[b]? =w.heap[b]?
theorem ao_.apb{own:Own}(g:ao_ F own w ee w'):aoZ F own w F ee w':=⟨g.ids,g.keep⟩
theorem Rel.carry{F':Nat->Prop}{own:Own}(g:aoZ F own w F' ee w'){s:SV}(h:Rel F own w s v):Rel F' ee w' s v:=by
 induction h with
 |any v=>exact .any v|v x=>exact .v x
 |ptr h1 h2=>obtain⟨hd',e,l⟩:=g.ids _ _ h1;exact .ptr e (l.1.trans h2)
 |os h1 h2=>obtain⟨hd',e,l⟩:=g.ids _ _ h1;rw[<-l.2.1]at h2 |-;exact .os e h2
 |e0=>exact .e0|rc _ O=>exact .rc O
 |rp h1 h2 W=>obtain⟨hd',e,l⟩:=g.ids _ _ h1;exact .rp e (l.2.1.trans h2) W
 |gr h1 h2 W=>obtain⟨hd',e,l⟩:=g.ids _ _ h1;exact .gr e (by rw[l.2.2];exact h2) W
 |gp h1 h2 W=>obtain⟨hd',e,l⟩:=g.ids _ _ h1;exact .gp e (by rw[l.2.2];exact h2) W
 |vw h1 h2 W=>obtain⟨hd',e,l⟩:=g.ids _ _ h1;exact .vw e (by rw[l.2.1];exact h2) W
 |ep c h1 _ O=>
  refine .ep c (λj s hj=>?_) O;obtain⟨hn,hc⟩:=h1 j s hj;obtain⟨V,hk⟩:=g.keep _ (JN hc) hn;grind [ut]
 |rs c E h0' h1 _ O=>
  refine .rs c E h0' (λi x hi j s hj=>?_) O;obtain⟨hn,hc⟩:=h1 i x hi j s hj;obtain⟨V,hk⟩:=g.keep _ (JN hc) hn;grind [ut]
 |rs0=>exact .rs0
 |ls c hz E h1 _ O=>
  refine .ls c hz E (λj s hj=>?_) O;obtain⟨hn,hc⟩:=h1 j s hj;obtain⟨V,hk⟩:=g.keep _ (JN hc) hn;grind [ut]
 |rm ck cv es clock E h1 h2 W _ _ X Y=>
  obtain⟨V,hk⟩:=g.keep _ (rL h1) E;exact .rm ck cv es clock V (by grind) h2 W X Y
 |rm0=>exact .rm0|agg E _ O=>exact .agg E O|tup E _ O=>exact .tup E O|fn E h0' _ _ X Y=>exact .fn E h0' X Y
theorem Rel.mono{own:Own}(g:ao_ F own w ee w'){s:SV}(h:Rel F own w s v):Rel F ee w' s v:=h.carry g.apb
theorem ao_.refl (F:Nat->Prop)(own:Own)(w:World):ao_ F own w own w:=⟨λ_ hd h=>⟨hd,h,.refl _⟩,λ_ _ h=>⟨h,rfl⟩,ak2 _⟩
theorem qD (w:World)(o:Obj)(b:Nat)(h:b<w.heap.size):(w.alloc o).heap[b]? =w.heap[b]?:=Below.heap_alloc w o b h
theorem kC (w:World)(o:Obj):(w.alloc o).heap[w.heap.size]? =some o:=by show(w.heap.push o)[w.heap.size]? =_;simp
theorem OB (w:World)(o:Obj):(w.alloc o).heap.size=w.heap.size+1:=by simp_all
theorem ao_.below(F:Nat->Prop)(own:Own)(h:Below w.heap.size w w'):ao_ F own w own w':=
 ⟨λ_ hd h=>⟨hd,h,.refl _⟩,λb E hn=>⟨hn,h.block b E⟩,h.size⟩
def qE (w:World)(o:Obj):Below w.heap.size w (w.alloc o):=(Below.refl _ _).alloc (ak2 _) o
theorem gC {α:Type}:∀ (l:List α) (i:Nat),nth l i=l[i]?
 | [],i=>by simp[nth]
 |x::r,0=>by simp[nth]
 |x::r,i+1=>by simp[nth,gC r i]
theorem qF:∀ l:List SV,sz l=l.length
 | [] =>rfl
 |x::r=>by simp[sz,qF r]
theorem JO:∀ (n:Nat) (l:List SV),cut n l=l.take n
 |0,l=>by simp[cut]
 |n+1,[] =>by simp[cut]
 |n+1,x::r=>by simp[cut,JO n r]
theorem DP:∀ (n:Nat) (l:List SV),LO n l=l.drop n
 |0,l=>by simp[LO]
 |n+1,[] =>by simp[LO]
 |n+1,x::r=>by simp[LO,DP n r]
theorem zX:∀ (l:List SV) (i:Nat) (s:SV),Ed l i s=l.set i s
 | [],i,s=>by simp[Ed]
 |x::r,0,s=>by simp[Ed]
 |x::r,i+1,s=>by simp[Ed,zX r i s]
theorem nF:∀ (vs cells:List SV) (off:Nat),(gN cells off vs).length=cells.length
 | [],cells,off=>rfl
 |x::xs,cells,off=>by simp[gN,nF xs,zX]
theorem ov:∀ (vs cells:List SV) (off:Nat),off+vs.length<=cells.length->∀ j,(gN cells off vs)[j]? =if off<=j/\j<off+vs.length then vs[j - off]? else cells[j]?
 | [],cells,off,_,j=>by simp_all [gN,if_neg]
 |x::xs,cells,off,h,j=>by
  simp only[ak5]at h;rw[gN,ov xs _ _ (by simp[zX];omega),zX];grind
theorem vp:∀ (h:List Ob) (id:Nat),ap h id=(h[id]?).getD .dead
 | [],id=>by simp[ap]
 |o::r,0=>by simp[ap]
 |o::r,n+1=>by simp[ap,vp r n]
theorem dG:∀ (h:List Ob) (id:Nat) (x:Ob) (j:Nat),ap (cL h id x) j=if id=j then x else ap h j
 | [],0,x,j=>by cases j <;>simp[cL,ap]
 | [],n+1,x,j=>by
  cases j with
  |zero=>simp[cL,ap]|succ j=>simp only[cL,ap,dG [] n x j];by_cases h:n=j <;>simp[h]
 |o::r,0,x,j=>by cases j <;>simp[cL,ap]
 |o::r,n+1,x,j=>by
  cases j with
  |zero=>simp[cL,ap]|succ j=>simp only[cL,ap,dG r n x j];by_cases h:n=j <;>simp[h]
theorem cI:∀ (h:List Ob) (id:Nat) (x:Ob),(cL h id x).length=if id<h.length then h.length else id+1
 | [],0,x=>by simp[cL]
 | [],n+1,x=>by simp[cL,cI [] n x]
 |o::r,0,x=>by simp[cL]
 |o::r,n+1,x=>by simp only[cL,ak5,cI r n x];by_cases h:n<r.length <;>simp[h] <;>omega
theorem mW {h:List Ob}{id:Nat}(hi:h.length<=id):ap h id=.dead:=by rw[vp,List.getElem?_eq_none hi];rfl
theorem sA (h l:List Ob)(id:Nat):ap (h++l) id=if id<h.length then ap h id else ap l (id - h.length):=by
 grind [vp]
theorem EA{own:Own}{s:SV}{l:List SV}(h:Rel F own w s v)(E:ph s=some l):
  v.cells.size=l.length/\∀ (j:Nat) (x:SV),l[j]? =some x->Rel F own w x (v.cells.getD j undef):=by
 have one:∀ {s:SV} {v:Value},Rel F own w s v->v.cells= #[v]->ph s=some [s]->ph s=some l->v.cells.size=l.length/\∀ (j:Nat) (x:SV),l[j]? =some x->Rel F own w x (v.cells.getD j undef):=by
  intro s v h hc h1 h2;rw[h1]at h2;simp only[ak3]at h2;subst h2;rw[hc];refine⟨rfl,λj x Y=>?_⟩;cases j <;>simp_all
 cases h with
 |any=>simp[ph]at E
 |v=>
  cases v <;>first|exact one (.v _) rfl rfl E|simp[ph]at E
  subst E;rename_i cs;refine⟨by simp[Value.cells],λj y Y=>?_⟩;simp at Y;obtain⟨z,X,rfl⟩:=Y;simp[Value.cells,X];exact .v _
 |ptr h1 h2=>exact one (.ptr h1 h2) rfl rfl E|os h1 h2=>exact one (.os h1 h2) (Ez h2) rfl E|e0=>exact one .e0 rfl rfl E|rc h=>exact one (.rc h) rfl rfl E|rp h1 h2 O=>exact one (.rp h1 h2 O) rfl rfl E|gr h1 h2 O=>exact one (.gr h1 h2 O) (Ez O) rfl E|gp h1 h2 O=>exact one (.gp h1 h2 O) rfl rfl E|vw h1 h2 O=>exact one (.vw h1 h2 O) rfl rfl E|ep c h1 h2=>exact one (.ep c h1 h2) rfl rfl E|rs c V W h1 h2=>exact one (.rs c V W h1 h2) rfl rfl E|rs0=>exact one .rs0 rfl rfl E|ls c X V h1 h2=>exact one (.ls c X V h1 h2) rfl rfl E|rm ck cv es clock V h1 h2 O h4 h5=>exact one (.rm ck cv es clock V h1 h2 O h4 h5) rfl rfl E|rm0=>exact one .rm0 rfl rfl E|agg V h1=>simp[ph]at E;subst E;exact⟨V,h1⟩|tup=>simp[ph]at E|fn V W h1 h2=>exact one (.fn V W h1 h2) rfl rfl E
end Go.Sx
end
