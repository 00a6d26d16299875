/- Part of the proof that the law RoutingPlanSpec returns true and leaves its arguments as they were, for all arguments of bulk at most 1048576 (the Upto form). -/
import Derived.Calls
import Derived.Orders
import Derived.Below
import Derived.KernelRfl
import Derived.Laws.Sem
import Derived.Laws.World
import Derived.Laws.Cells
import Derived.Laws.Entries
import Derived.Laws.Tables
set_option linter.all false
set_option maxHeartbeats 4000000
section
namespace Go.Sx
open Go.RowKit
structure Range where
  lo : Int
  hi : Int
  deriving Inhabited, DecidableEq
structure Ratio where
  n : Int
  d : Int
  deriving Inhabited, DecidableEq
structure Reach where
  name : ByteArray
  up : Int
  delay : Int
  cap : Int
  bank : Int
  siphon : Int
  evap : Range
  seep : Ratio × Ratio
  deriving Inhabited, DecidableEq
structure Farm where
  name : ByteArray
  reach : Int
  area : Int
  crop : Int
  deriving Inhabited, DecidableEq
structure Crop where
  name : ByteArray
  need : Int
  deriving Inhabited, DecidableEq
structure Right where
  name : ByteArray
  kind : Int
  farm : Int
  reach : Int
  rank : Int
  litres : Int
  since : Int
  to : Int
  every : Int
  length : Int
  deriving Inhabited, DecidableEq
structure Duty where
  name : ByteArray
  farm : Int
  reach : Int
  due : Int
  deriving Inhabited, DecidableEq
structure Well where
  farm : Int
  reach : Int
  d : Int
  kernel : List Int
  deriving Inhabited, DecidableEq
structure Order where
  hour : Int
  index : Int
  litres : Int
  outlet : Bool
  deriving Inhabited, DecidableEq
structure Tank where
  cap : Int
  start : Int
  deriving Inhabited, DecidableEq
structure District where
  name : ByteArray
  hours : Int
  tank : Tank
  reaches : List Reach
  farms : List Farm
  crops : List Crop
  rights : List Right
  duties : List Duty
  wells : List Well
  deriving Inhabited, DecidableEq
inductive Tag where
  | reach | farm | crop | right | duty | int | well | order | int2 | ints | tank | district | range | ratio | ratio2 | bool | str
  deriving DecidableEq
abbrev Tag.T : Tag → Type
  | .reach => Reach
  | .farm => Farm
  | .crop => Crop
  | .right => Right
  | .duty => Duty
  | .int => Int
  | .well => Well
  | .order => Order
  | .int2 => Int × Int
  | .ints => List Int
  | .tank => Tank
  | .district => District
  | .range => Range
  | .ratio => Ratio
  | .ratio2 => Ratio × Ratio
  | .bool => Bool
  | .str => ByteArray
def tagN : Tag → Nat
  | .reach => 0
  | .farm => 1
  | .crop => 2
  | .right => 3
  | .duty => 4
  | .int => 5
  | .well => 6
  | .order => 7
  | .int2 => 8
  | .ints => 9
  | .tank => 10
  | .district => 11
  | .range => 12
  | .ratio => 13
  | .ratio2 => 14
  | .bool => 15
  | .str => 16
def rank : Tag → Nat
  | .reach => 0
  | .farm => 0
  | .crop => 0
  | .right => 0
  | .duty => 0
  | .int => 0
  | .well => 1
  | .order => 0
  | .int2 => 0
  | .ints => 1
  | .tank => 0
  | .district => 2
  | .range => 0
  | .ratio => 0
  | .ratio2 => 0
  | .bool => 0
  | .str => 0
def Tag.ofName : String → Option Tag
  | "api.Reach" => some .reach
  | "api.Farm" => some .farm
  | "api.Crop" => some .crop
  | "api.Right" => some .right
  | "api.Duty" => some .duty
  | "api.Errno" => some .int
  | "expand.refused" => some .int
  | "int" => some .int
  | "int64" => some .int
  | "api.Well" => some .well
  | "api.Order" => some .order
  | "[2]int" => some .int2
  | "[]int" => some .ints
  | "api.Tank" => some .tank
  | "api.District" => some .district
  | "api.Range" => some .range
  | "api.Ratio" => some .ratio
  | "[2]api.Ratio" => some .ratio2
  | "bool" => some .bool
  | "string" => some .str
  | _ => none
instance instDecTag : (k : Tag) → DecidableEq k.T
  | .reach => inferInstanceAs (DecidableEq (Reach))
  | .farm => inferInstanceAs (DecidableEq (Farm))
  | .crop => inferInstanceAs (DecidableEq (Crop))
  | .right => inferInstanceAs (DecidableEq (Right))
  | .duty => inferInstanceAs (DecidableEq (Duty))
  | .int => inferInstanceAs (DecidableEq (Int))
  | .well => inferInstanceAs (DecidableEq (Well))
  | .order => inferInstanceAs (DecidableEq (Order))
  | .int2 => inferInstanceAs (DecidableEq (Int × Int))
  | .ints => inferInstanceAs (DecidableEq (List Int))
  | .tank => inferInstanceAs (DecidableEq (Tank))
  | .district => inferInstanceAs (DecidableEq (District))
  | .range => inferInstanceAs (DecidableEq (Range))
  | .ratio => inferInstanceAs (DecidableEq (Ratio))
  | .ratio2 => inferInstanceAs (DecidableEq (Ratio × Ratio))
  | .bool => inferInstanceAs (DecidableEq (Bool))
  | .str => inferInstanceAs (DecidableEq (ByteArray))
structure Res where
  yv : Value
  n : Nat
  R : (Nat → Prop) → List Nat → World → Prop
  loc : ∀ (F F' : Nat → Prop) (bs : List Nat) (w w' : World), R F bs w → w.heap.size ≤ w'.heap.size → (∀ b, b < w.heap.size → ¬ F b → w'.heap[b]? = w.heap[b]?) → (∀ b, b < w.heap.size → F' b → F b) → R F' bs w'
instance : Inhabited Res := ⟨⟨.nilFunc, 0, fun _ _ _ => True, fun _ _ _ _ _ _ _ _ _ => trivial⟩⟩
inductive SV where
  | any
  | v (x : Value)
  | ptr (id off : Nat)
  | os (id : Nat)
  | e0
  | rp (sz id : Nat) (i : Int) (off : Nat)
  | gr (id : Nat) (i : Int)
  | gp (sz id : Nat) (i j : Int) (off : Nat)
  | ep (cells : List SV) (off : Nat)
  | rs (k : Tag) (l : List k.T)
  | ls (l : List SV)
  | rm (kk vk : Tag) (l : List (kk.T × vk.T))
  | agg (l : List SV)
  | tup (l : List SV)
  | fn (f : FuncId) (first caps : List SV)
  | nw (k : Tag) (l : List k.T)
  | nm (kk vk : Tag) (l : List (kk.T × vk.T))
  | ng (k : Tag) (l : List (List k.T))
  | gd (j : Nat) (want : Bool) (s : SV)
  | vw (sz id : Nat) (lo hi : Int)
  deriving Inhabited
abbrev SV.i (n : Int) : SV := .v (.int .i64 n)
abbrev SV.b (x : Bool) : SV := .v (.bool x)
abbrev SV.s (x : ByteArray) : SV := .v (.string x)
def cellsOf : (k : Tag) → k.T → List SV
  | .reach, x => [.v (.string x.name), .v (.int .i64 x.up), .v (.int .i64 x.delay), .v (.int .i64 x.cap), .v (.int .i64 x.bank), .v (.int .i64 x.siphon), .v (.int .i64 x.evap.lo), .v (.int .i64 x.evap.hi), .v (.int .i64 x.seep.1.n), .v (.int .i64 x.seep.1.d), .v (.int .i64 x.seep.2.n), .v (.int .i64 x.seep.2.d)]
  | .farm, x => [.v (.string x.name), .v (.int .i64 x.reach), .v (.int .i64 x.area), .v (.int .i64 x.crop)]
  | .crop, x => [.v (.string x.name), .v (.int .i64 x.need)]
  | .right, x => [.v (.string x.name), .v (.int .i64 x.kind), .v (.int .i64 x.farm), .v (.int .i64 x.reach), .v (.int .i64 x.rank), .v (.int .i64 x.litres), .v (.int .i64 x.since), .v (.int .i64 x.to), .v (.int .i64 x.every), .v (.int .i64 x.length)]
  | .duty, x => [.v (.string x.name), .v (.int .i64 x.farm), .v (.int .i64 x.reach), .v (.int .i64 x.due)]
  | .int, x => [.v (.int .i64 x)]
  | .well, x => [.v (.int .i64 x.farm), .v (.int .i64 x.reach), .v (.int .i64 x.d), .rs .int x.kernel]
  | .order, x => [.v (.int .i64 x.hour), .v (.int .i64 x.index), .v (.int .i64 x.litres), .v (.bool x.outlet)]
  | .int2, x => [.v (.int .i64 x.1), .v (.int .i64 x.2)]
  | .ints, x => [.rs .int x]
  | .tank, x => [.v (.int .i64 x.cap), .v (.int .i64 x.start)]
  | .district, x => [.v (.string x.name), .v (.int .i64 x.hours), .v (.int .i64 x.tank.cap), .v (.int .i64 x.tank.start), .rs .reach x.reaches, .rs .farm x.farms, .rs .crop x.crops, .rs .right x.rights, .rs .duty x.duties, .rs .well x.wells]
  | .range, x => [.v (.int .i64 x.lo), .v (.int .i64 x.hi)]
  | .ratio, x => [.v (.int .i64 x.n), .v (.int .i64 x.d)]
  | .ratio2, x => [.v (.int .i64 x.1.n), .v (.int .i64 x.1.d), .v (.int .i64 x.2.n), .v (.int .i64 x.2.d)]
  | .bool, x => [.v (.bool x)]
  | .str, x => [.v (.string x)]
def sizeOfTag : Tag → Nat
  | .reach => 12
  | .farm => 4
  | .crop => 2
  | .right => 10
  | .duty => 4
  | .int => 1
  | .well => 4
  | .order => 4
  | .int2 => 2
  | .ints => 1
  | .tank => 2
  | .district => 10
  | .range => 2
  | .ratio => 2
  | .ratio2 => 4
  | .bool => 1
  | .str => 1
theorem cellsOf_length (k : Tag) (x : k.T) : (cellsOf k x).length = sizeOfTag k := by cases k <;> rfl
def dflt : (k : Tag) → k.T
  | .reach => (default : Reach)
  | .farm => (default : Farm)
  | .crop => (default : Crop)
  | .right => (default : Right)
  | .duty => (default : Duty)
  | .int => (0 : Int)
  | .well => (default : Well)
  | .order => (default : Order)
  | .int2 => (default : Int × Int)
  | .ints => (default : List Int)
  | .tank => (default : Tank)
  | .district => (default : District)
  | .range => (default : Range)
  | .ratio => (default : Ratio)
  | .ratio2 => (default : Ratio × Ratio)
  | .bool => false
  | .str => (ByteArray.mk #[])
inductive Kd where
  | s | b | n (k : IntKind) | r (k : Tag) | m (k k2 : Tag)
def aggTag : Tag → Bool
  | .reach => true
  | .farm => true
  | .crop => true
  | .right => true
  | .duty => true
  | .int => false
  | .well => true
  | .order => true
  | .int2 => true
  | .ints => false
  | .tank => true
  | .district => true
  | .range => true
  | .ratio => true
  | .ratio2 => true
  | .bool => false
  | .str => false
def gridS : (k : Tag) → List (List k.T) → SV
  | .int, l => .rs .ints l
  | _, _ => .any
def kindsOf : Tag → List Kd
  | .reach => [.s, .n .i64, .n .i64, .n .i64, .n .i64, .n .i64, .n .i64, .n .i64, .n .i64, .n .i64, .n .i64, .n .i64]
  | .farm => [.s, .n .i64, .n .i64, .n .i64]
  | .crop => [.s, .n .i64]
  | .right => [.s, .n .i64, .n .i64, .n .i64, .n .i64, .n .i64, .n .i64, .n .i64, .n .i64, .n .i64]
  | .duty => [.s, .n .i64, .n .i64, .n .i64]
  | .int => [.n .i64]
  | .well => [.n .i64, .n .i64, .n .i64, .r .int]
  | .order => [.n .i64, .n .i64, .n .i64, .b]
  | .int2 => [.n .i64, .n .i64]
  | .ints => [.r .int]
  | .tank => [.n .i64, .n .i64]
  | .district => [.s, .n .i64, .n .i64, .n .i64, .r .reach, .r .farm, .r .crop, .r .right, .r .duty, .r .well]
  | .range => [.n .i64, .n .i64]
  | .ratio => [.n .i64, .n .i64]
  | .ratio2 => [.n .i64, .n .i64, .n .i64, .n .i64]
  | .bool => [.b]
  | .str => [.s]
def toI : SV → Int | .v (.int _ n) => n | _ => 0
def toB : SV → Bool | .v (.bool b) => b | _ => false
def toS : SV → ByteArray | .v (.string s) => s | _ => ByteArray.mk #[]
def toR_reach : SV → List Reach | .rs .reach l => l | _ => []
def toR_farm : SV → List Farm | .rs .farm l => l | _ => []
def toR_crop : SV → List Crop | .rs .crop l => l | _ => []
def toR_right : SV → List Right | .rs .right l => l | _ => []
def toR_duty : SV → List Duty | .rs .duty l => l | _ => []
def toR_int : SV → List Int | .rs .int l => l | _ => []
def toR_well : SV → List Well | .rs .well l => l | _ => []
def toR_order : SV → List Order | .rs .order l => l | _ => []
def toR_int2 : SV → List (Int × Int) | .rs .int2 l => l | _ => []
def toR_ints : SV → List (List Int) | .rs .ints l => l | _ => []
def toR_tank : SV → List Tank | .rs .tank l => l | _ => []
def toR_district : SV → List District | .rs .district l => l | _ => []
def toR_range : SV → List Range | .rs .range l => l | _ => []
def toR_ratio : SV → List Ratio | .rs .ratio l => l | _ => []
def toR_ratio2 : SV → List (Ratio × Ratio) | .rs .ratio2 l => l | _ => []
def toR_bool : SV → List Bool | .rs .bool l => l | _ => []
def toR_str : SV → List ByteArray | .rs .str l => l | _ => []
def at0 : List SV → Nat → SV
  | [], _ => .any
  | x :: _, 0 => x
  | _ :: r, n + 1 => at0 r n
def mkE : (k : Tag) → List SV → k.T
  | .reach, l => (⟨toS (at0 l 0), toI (at0 l 1), toI (at0 l 2), toI (at0 l 3), toI (at0 l 4), toI (at0 l 5), ⟨toI (at0 l 6), toI (at0 l 7)⟩, (⟨toI (at0 l 8), toI (at0 l 9)⟩, ⟨toI (at0 l 10), toI (at0 l 11)⟩)⟩ : Reach)
  | .farm, l => (⟨toS (at0 l 0), toI (at0 l 1), toI (at0 l 2), toI (at0 l 3)⟩ : Farm)
  | .crop, l => (⟨toS (at0 l 0), toI (at0 l 1)⟩ : Crop)
  | .right, l => (⟨toS (at0 l 0), toI (at0 l 1), toI (at0 l 2), toI (at0 l 3), toI (at0 l 4), toI (at0 l 5), toI (at0 l 6), toI (at0 l 7), toI (at0 l 8), toI (at0 l 9)⟩ : Right)
  | .duty, l => (⟨toS (at0 l 0), toI (at0 l 1), toI (at0 l 2), toI (at0 l 3)⟩ : Duty)
  | .int, l => (toI (at0 l 0) : Int)
  | .well, l => (⟨toI (at0 l 0), toI (at0 l 1), toI (at0 l 2), toR_int (at0 l 3)⟩ : Well)
  | .order, l => (⟨toI (at0 l 0), toI (at0 l 1), toI (at0 l 2), toB (at0 l 3)⟩ : Order)
  | .int2, l => ((toI (at0 l 0), toI (at0 l 1)) : Int × Int)
  | .ints, l => (toR_int (at0 l 0) : List Int)
  | .tank, l => (⟨toI (at0 l 0), toI (at0 l 1)⟩ : Tank)
  | .district, l => (⟨toS (at0 l 0), toI (at0 l 1), ⟨toI (at0 l 2), toI (at0 l 3)⟩, toR_reach (at0 l 4), toR_farm (at0 l 5), toR_crop (at0 l 6), toR_right (at0 l 7), toR_duty (at0 l 8), toR_well (at0 l 9)⟩ : District)
  | .range, l => (⟨toI (at0 l 0), toI (at0 l 1)⟩ : Range)
  | .ratio, l => (⟨toI (at0 l 0), toI (at0 l 1)⟩ : Ratio)
  | .ratio2, l => ((⟨toI (at0 l 0), toI (at0 l 1)⟩, ⟨toI (at0 l 2), toI (at0 l 3)⟩) : Ratio × Ratio)
  | .bool, l => (toB (at0 l 0) : Bool)
  | .str, l => (toS (at0 l 0) : ByteArray)
def kN : IntKind → Nat
  | .i8 => 0 | .i16 => 1 | .i32 => 2 | .i64 => 3 | .u8 => 4 | .u16 => 5 | .u32 => 6 | .u64 => 7
def fit : Kd → SV → Bool
  | .s, .v (.string _) => true
  | .b, .v (.bool _) => true
  | .n k, .v (.int k' _) => Nat.beq (kN k) (kN k')
  | .r k, .rs k' _ => Nat.beq (tagN k) (tagN k')
  | .m k k2, .rm k' k2' _ => Nat.beq (tagN k) (tagN k') && Nat.beq (tagN k2) (tagN k2')
  | _, _ => false
def fits : List Kd → List SV → Bool
  | [], [] => true
  | k :: ks, x :: xs => fit k x && fits ks xs
  | _, _ => false
def nrm1 : Kd → SV → SV
  | .r k, .v (.slice none 0 0) => .rs k []
  | .r k, .e0 => .rs k []
  | .m k k2, .v (.map none) => .rm k k2 []
  | _, s => s
def nrmL : List Kd → List SV → List SV
  | k :: ks, s :: r => nrm1 k s :: nrmL ks r
  | _, l => l
def elemO (k : Tag) (l : List SV) : Option k.T := bif fits (kindsOf k) l then some (mkE k l) else none
def elemOf (k : Tag) (l : List SV) : Option k.T := elemO k (nrmL (kindsOf k) l)
inductive Pk where
  | st (k : Tag)
  | sl (k : Tag)
  | mp (k k2 : Tag)
  | o
def nrmP : Pk → SV → SV
  | .st k, .agg l => .agg (nrmL (kindsOf k) l)
  | .sl k, s => nrm1 (.r k) s
  | .mp k k2, s => nrm1 (.m k k2) s
  | _, s => s
def nrmA : List Pk → List SV → List SV
  | p :: ps, s :: r => nrmP p s :: nrmA ps r
  | _, l => l
structure TI where
  size : Nat
  bytes : Nat
  agg : Bool
  zero : List SV
  fields : List (Nat × Nat × Bool)
  elem : Nat
  len : Nat
  isSlice : Bool
  isArr : Bool
  tag : Option Tag
  int : Option IntKind
  iface : Bool
  eq : List Nat
  mkt : Option Tag
  mvt : Option Tag
  sc : Nat
def svs (v : Value) : List SV := v.cells.toList.map .v
def sizeT (P : Program) (t : TypeId) : Nat := match P.info? t with | some i => i.size | none => 0
def isAggT (P : Program) (t : TypeId) : Bool := match P.underlying t with | some (.struct _) => true | some (.array _ _) => true | _ => false
def eqCode : Option TypeDesc → Nat
  | some (.int _) => 1
  | some .string => 2
  | some .bool => 3
  | _ => 0
def eqFields (P : Program) : Nat → List Field → Bool
  | _, [] => true
  | n, f :: r => (f.name != "_") && Nat.beq f.offset n && Nat.blt 0 (eqCode (P.underlying f.type)) && eqFields P (n + 1) r
def eqFlat (P : Program) (t : TypeId) (d : TypeDesc) : List Nat := match d with
  | .struct fs => bif !P.stoodInHeld t && !P.eqGuardType P.depth t && eqFields P 0 fs.toList then fs.toList.map fun f => eqCode (P.underlying f.type) else []
  | .array n e => bif !P.eqGuardType P.depth t && Nat.blt 0 (eqCode (P.underlying e)) && Nat.beq (sizeT P e) 1 then List.replicate n (eqCode (P.underlying e)) else []
  | _ => []
def zero1 : SV → SV → Bool
  | .v (.int k a), .v (.int k' b) => Nat.beq (kN k) (kN k') && (match a, b with | .ofNat 0, .ofNat 0 => true | _, _ => false)
  | .v (.string a), .v (.string b) => Nat.beq a.size 0 && Nat.beq b.size 0
  | .v (.bool false), .v (.bool false) => true
  | .rs _ [], .v (.slice none 0 0) => true
  | .rm _ _ [], .v (.map none) => true
  | _, _ => false
def zeroOk : List SV → List SV → Bool
  | [], [] => true
  | a :: r, b :: s => zero1 a b && zeroOk r s
  | _, _ => false
def beqB : Bool → Bool → Bool
  | true, true => true
  | false, false => true
  | _, _ => false
def isAggV : Value → Bool
  | .agg _ => true
  | _ => false
def tagFit (P : Program) (t : TypeId) (i : TypeInfo) (k : Tag) : Bool :=
  (match i.zero with | some z => beqB (isAggV z) (aggTag k) | none => false) && Nat.beq i.size (sizeOfTag k) && Nat.ble 1 i.bytes && zeroOk (cellsOf k (dflt k)) (match i.zero with | some z => svs z | none => []) && beqB (isAggT P t) (aggTag k)
def tagOf (P : Program) (t : TypeId) (i : TypeInfo) : Option Tag := match Tag.ofName i.str with | some k => bif tagFit P t i k then some k else none | none => none
def tagT (P : Program) (t : TypeId) : Option Tag := match P.info? t with | some i => tagOf P t i | none => none
def codeK : Kd → Nat
  | .n _ => 1
  | .s => 2
  | .b => 3
  | _ => 0
def beqNs : List Nat → List Nat → Bool
  | [], [] => true
  | a :: r, b :: s => Nat.beq a b && beqNs r s
  | _, _ => false
def keyFit (P : Program) (t : TypeId) (k : Tag) : Bool := match P.underlying t with
  | some d => bif isAggT P t then beqNs ((kindsOf k).map codeK) (eqFlat P t d) && Nat.blt 0 (kindsOf k).length else beqNs ((kindsOf k).map codeK) [eqCode (some d)] && Nat.blt 0 (eqCode (some d))
  | none => false
def keyT (P : Program) (t : TypeId) : Option Tag := match tagT P t with | some k => bif keyFit P t k then some k else none | none => none
def tiMk (P : Program) (t : TypeId) (i : TypeInfo) (d : TypeDesc) : TI :=
  { size := i.size
    bytes := i.bytes
    agg := isAggT P t
    zero := match i.zero with | some z => svs z | none => []
    fields := match d with | .struct fs => fs.toList.map fun f => (f.offset, sizeT P f.type, isAggT P f.type) | _ => []
    elem := match d with | .slice e => e | .array _ e => e | .map _ e => e | _ => 0
    len := match d with | .array n _ => n | _ => 0
    isSlice := match d with | .slice _ => true | _ => false
    isArr := match d with | .array _ _ => true | _ => false
    tag := tagOf P t i
    int := match d with | .int k => some k | _ => none
    iface := match d with | .interface _ => true | _ => false
    eq := eqFlat P t d
    mkt := match d with | .map k _ => keyT P k | _ => none
    mvt := match d with | .map _ e => tagT P e | _ => none
    sc := eqCode (some d) }
def fieldsOk (P : Program) (d : TypeDesc) : Bool := match d with | .struct fs => fs.toList.all fun f => (P.info? f.type).isSome && (P.underlying f.type).isSome | _ => true
def tiOf (P : Program) (t : TypeId) : Option TI :=
  match P.info? t, P.underlying t with
  | some i, some d => bif i.zero.isSome && fieldsOk P d then some (tiMk P t i d) else none
  | _, _ => none
abbrev Tis := TypeId → Option TI
def Tis.ok (ts : Tis) (P : Program) : Prop := ∀ t i, ts t = some i → tiOf P t = some i
inductive Ob where
  | cells (l : List SV)
  | dead
  | row (k : Tag) (l : List k.T)
  | mp (kk vk : Tag) (l : List (kk.T × vk.T)) (pend : Option kk.T)
  | grid (k : Tag) (l : List (List k.T))
  | ab (r : Res)
  | raw (o : Obj)
  | mi (mid : Option Nat) (n : Nat) (left : List Nat) (cur : Option Nat)
  | fwd (n : Option Nat)
instance : Inhabited Ob := ⟨.dead⟩
structure St where
  t : List (Nat × SV)
  h : List Ob
  deriving Inhabited
def lk (t : Nat) : List (Nat × SV) → SV
  | [] => .any
  | (a, s) :: r => bif Nat.beq a t then s else lk t r
def St.put (st : St) (d : Option Nat) (s : SV) : St := match d with | some d => ⟨(d, s) :: st.t, st.h⟩ | none => st
def obAt : List Ob → Nat → Ob
  | [], _ => .dead
  | o :: _, 0 => o
  | _ :: r, n + 1 => obAt r n
def obSet : List Ob → Nat → Ob → List Ob
  | [], 0, x => [x]
  | [], n + 1, x => .dead :: obSet [] n x
  | _ :: r, 0, x => x :: r
  | o :: r, n + 1, x => o :: obSet r n x
abbrev Up := Nat × Ob
def obSets (h : List Ob) : List Up → List Ob
  | [] => h
  | (id, o) :: r => obSets (obSet h id o) r
inductive Con where
  | det (pre : Prop) (s : SV)
  | rel (α : Type) (pre : Prop) (post : α → Prop) (out : α → SV)
  | may (ok : Bool) (s : SV) (x : Value)
inductive Rs where
  | ret (s : SV) (h : List Ob)
  | pan (x : Value) (h : List Ob)
structure HCon where
  α : Type
  pre : Prop
  post : α → Prop
  res : α → Rs
structure YCon where
  α : Type
  pre : Prop
  post : α → Prop
  res : α → Bool × Res
structure Cons where
  p : FuncId → List SV → Option Con
  o : FuncId → List SV → List Ob → Option HCon
  y : List SV → Res → Option YCon
def flat : SV → Option (List SV)
  | .agg l => some l
  | .v (.agg cs) => some (cs.toList.map .v)
  | .v (.tuple _) => none
  | .any => none
  | .tup _ => none
  | .gd .. => none
  | .nw .. => none
  | .nm .. => none
  | .ng .. => none
  | s => some [s]
def nth {α : Type} : List α → Nat → Option α
  | [], _ => none
  | x :: _, 0 => some x
  | _ :: r, n + 1 => nth r n
def cut : Nat → List SV → List SV
  | 0, _ => []
  | _ + 1, [] => []
  | n + 1, x :: r => x :: cut n r
def past : Nat → List SV → List SV
  | 0, l => l
  | _ + 1, [] => []
  | n + 1, _ :: r => past n r
def sz : List SV → Nat
  | [] => 0
  | _ :: r => sz r + 1
def partOf (agg : Bool) (size : Nat) (cells : List SV) (off : Nat) : Option SV :=
  bif agg then (bif Nat.ble (off + size) (sz cells) then some (.agg (cut size (past off cells))) else none)
  else nth cells off
def setAt : List SV → Nat → SV → List SV
  | [], _, _ => []
  | _ :: r, 0, s => s :: r
  | x :: r, n + 1, s => x :: setAt r n s
def setCells (cells : List SV) (off : Nat) : List SV → List SV
  | [] => cells
  | x :: xs => setCells (setAt cells off x) (off + 1) xs
section
variable {κ υ : Type}
def mget [DecidableEq κ] : List (κ × υ) → κ → Option υ
  | [], _ => none
  | (a, b) :: r, x => if x = a then some b else mget r x
def mupd [DecidableEq κ] : List (κ × υ) → κ → υ → List (κ × υ)
  | [], x, y => [(x, y)]
  | (a, b) :: r, x, y => if x = a then (x, y) :: r else (a, b) :: mupd r x y
def mpos [DecidableEq κ] : List (κ × υ) → κ → Nat
  | [], _ => 0
  | (a, _) :: r, x => if x = a then 0 else mpos r x + 1
end
def mgetT (kk vk : Tag) (l : List (kk.T × vk.T)) (x : kk.T) : vk.T := (mget l x).getD (dflt vk)
def mhasT (kk vk : Tag) (l : List (kk.T × vk.T)) (x : kk.T) : Bool := (mget l x).isSome
def mupdT (kk vk : Tag) (l : List (kk.T × vk.T)) (x : kk.T) (y : vk.T) : List (kk.T × vk.T) := mupd l x y
def mposT (kk vk : Tag) (l : List (kk.T × vk.T)) (x : kk.T) : Nat := mpos l x
def mpend (kk vk : Tag) (l : List (kk.T × vk.T)) (x : kk.T) : Option kk.T := if (mget l x).isSome then none else some x
def svT (k : Tag) (x : k.T) : SV := bif aggTag k then .agg (cellsOf k x) else (nth (cellsOf k x) 0).getD .any
def flatE (k : Tag) : Option (List SV) → Option k.T
  | some l => elemOf k l
  | none => none
def aggL : SV → Option (List SV)
  | .agg l => some l
  | .v (.agg cs) => some (cs.toList.map .v)
  | _ => none
def oneL : SV → Option (List SV)
  | .agg _ => none
  | .v (.agg _) => none
  | s => flat s
def unT (k : Tag) (s : SV) : Option k.T := bif aggTag k then flatE k (aggL s) else flatE k (oneL s)
inductive OR where
  | val (s : SV)
  | chk (c : Prop) (s : SV)
  | asm (c : Prop) (s : SV)
  | newr (s : SV)
  | eff (c a : Prop) (ups : List Up) (s : SV)
  | call (f : FuncId) (args : List SV)
  | yld (id : Nat) (args : List SV)
  | nxt (id : Nat)
  | amb (p : Bool → Prop)
  | pan (x : Value)
  | bad
structure Cx where
  ts : Tis
  ops : List Oper
  g : Option (Nat × Bool)
  st : St
  nx : Nat
def implies (ops : List Oper) : Nat → Option (Nat × Bool) → Nat → Bool → Bool
  | 0, _, _, _ => false
  | _ + 1, none, _, _ => false
  | n + 1, some (j, b), j', b' => bif Nat.beq j j' && beqB b b' then true else implies ops n ((nth ops j).bind (·.guard)) j' b'
def under (ops : List Oper) (g : Option (Nat × Bool)) : SV → SV
  | .gd j b s => bif implies ops ops.length g j b then s else .any
  | .any => .any
  | .v x => .v x
  | .ptr a b => .ptr a b
  | .os a => .os a
  | .e0 => .e0
  | .rp a b c d => .rp a b c d
  | .gr a b => .gr a b
  | .gp a b c d e => .gp a b c d e
  | .ep a b => .ep a b
  | .rs k l => .rs k l
  | .ls l => .ls l
  | .rm k k2 l => .rm k k2 l
  | .agg l => .agg l
  | .tup l => .tup l
  | .fn f l m => .fn f l m
  | .nw k l => .nw k l
  | .nm k k2 l => .nm k k2 l
  | .ng k l => .ng k l
  | .vw a b c d => .vw a b c d
def raw (t : List (Nat × SV)) : Operand → SV
  | .tmp n => lk n t
  | .const x => .v x
  | .func f => .fn f [] []
  | .global _ => .any
def val (cx : Cx) (x : Operand) : SV := under cx.ops cx.g (raw cx.st.t x)
def vals (cx : Cx) : List Operand → List SV
  | [] => []
  | x :: r => val cx x :: vals cx r
def valO (cx : Cx) : Option Operand → Option SV
  | some x => some (val cx x)
  | none => none
def pvals (cx : Cx) : List (Nat × Operand) → List (Nat × SV)
  | [] => []
  | (i, x) :: r => (i, val cx x) :: pvals cx r
def isTrue : Operand → Bool
  | .const (.bool true) => true
  | _ => false
def isFalse : Operand → Bool
  | .const (.bool false) => true
  | _ => false
def dstIs (ops : List Oper) (j : Nat) (c : Operand) : Bool :=
  match (nth ops j).bind (·.dst), c with
  | some d, .tmp t => Nat.beq d t
  | _, _ => false
def pickSide (ops : List Oper) (g : Option (Nat × Bool)) (c : Operand) (want : Bool) : SV → SV
  | .gd j b s => bif beqB b want && dstIs ops j c then s else under ops g (.gd j b s)
  | s => under ops g s
def pickB (a b : Operand) : SV → SV → SV → OR
  | .v (.bool x), .v (.bool y), .v (.bool z) => bif isTrue a then .val (.b (x || z)) else bif isFalse b then .val (.b (x && y)) else .bad
  | .v (.bool x), .any, .v (.bool z) => .chk (x = false) (.b z)
  | .v (.bool x), .v (.bool y), .any => .chk (x = true) (.b y)
  | _, _, _ => .bad
def shrI (k : IntKind) (a b : Int) : Int := a.fdiv (2 ^ min b.toNat k.bits)
def intOp (op : BinOp) (k : IntKind) (a b : Int) : OR :=
  match op with
  | .add => .val (.v (.int k (k.wrap (a + b))))
  | .sub => .val (.v (.int k (k.wrap (a - b))))
  | .mul => .val (.v (.int k (k.wrap (a * b))))
  | .quo => .chk (b ≠ 0) (.v (.int k (k.wrap (a.tdiv b))))
  | .rem => .chk (b ≠ 0) (.v (.int k (a.tmod b)))
  | .shr => .chk (0 ≤ b) (.v (.int k (shrI k a b)))
  | .eql => .val (.v (.bool (a == b)))
  | .neq => .val (.v (.bool (a != b)))
  | .lss => .val (.v (.bool (decide (a < b))))
  | .leq => .val (.v (.bool (decide (a ≤ b))))
  | .gtr => .val (.v (.bool (decide (a > b))))
  | .geq => .val (.v (.bool (decide (a ≥ b))))
  | _ => .bad
def strOp (op : BinOp) (a b : ByteArray) : OR :=
  match op with
  | .eql => .val (.v (.bool (a == b)))
  | .neq => .val (.v (.bool (a != b)))
  | _ => .bad
def boolOp (op : BinOp) (a b : Bool) : OR :=
  match op with
  | .eql => .val (.v (.bool (a == b)))
  | .neq => .val (.v (.bool (a != b)))
  | _ => .bad
def eqV (c : Nat) : SV → SV → Option Bool
  | .v (.int k a), .v (.int k' b) => bif Nat.beq c 1 && Nat.beq (kN k) (kN k') then some (a == b) else none
  | .v (.string a), .v (.string b) => bif Nat.beq c 2 then some (a == b) else none
  | .v (.bool a), .v (.bool b) => bif Nat.beq c 3 then some (a == b) else none
  | _, _ => none
def andO : Option Bool → Option Bool → Option Bool
  | some a, some b => some (a && b)
  | _, _ => none
def eqL : List Nat → List SV → List SV → Option Bool
  | [], [], [] => some true
  | c :: cs, x :: r, y :: s => andO (eqV c x y) (eqL cs r s)
  | _, _, _ => none
def eqO (op : BinOp) : Option Bool → OR
  | some b => match op with | .eql => .val (.v (.bool b)) | .neq => .val (.v (.bool !b)) | _ => .bad
  | none => .bad
def eqT' (op : BinOp) (l m : List SV) : List Nat → OR
  | [] => .bad
  | c :: cs => eqO op (eqL (c :: cs) l m)
def getTI (ts : Tis) (t : TypeId) (k : TI → OR) : OR := match ts t with | some i => k i | none => .bad
def eqT (op : BinOp) (l m : List SV) (ti : TI) : OR := eqT' op l m ti.eq
def binS (op : BinOp) : SV → SV → OR
  | .v (.int k a), .v (.int k' b) => bif Nat.beq (kN k) (kN k') then intOp op k a b else .bad
  | _, _ => .bad
def nilQ (op : BinOp) (p : Prop) : OR :=
  match op with
  | .eql => .amb fun b => b = true → p
  | .neq => .amb fun b => b = false → p
  | _ => .bad
def eqS (op : BinOp) (ti : TI) : SV → SV → OR
  | .rs _ l, .v (.slice none 0 0) => bif ti.isSlice then nilQ op (l = []) else .bad
  | .v (.string a), .v (.string b) => bif Nat.beq ti.sc 2 then strOp op a b else .bad
  | .v (.bool a), .v (.bool b) => bif Nat.beq ti.sc 3 then boolOp op a b else .bad
  | .agg l, .agg m => eqT op l m ti
  | _, _ => .bad
def binA (ts : Tis) (op : BinOp) (t : TypeId) : SV → SV → OR
  | .v (.int k a), .v (.int k' b) => binS op (.v (.int k a)) (.v (.int k' b))
  | a, b => getTI ts t fun ti => eqS op ti a b
def unS : UnOp → SV → OR
  | .not, .v (.bool b) => .val (.v (.bool !b))
  | .neg, .v (.int k n) => .val (.v (.int k (k.wrap (0 - n))))
  | _, _ => .bad
def orVal : Option SV → OR
  | some s => .val s
  | none => .bad
def rowAt (agg : Bool) (size szt : Nat) (id : Nat) (i : Int) (off : Nat) : Ob → OR
  | .row k l => bif Nat.beq szt (sizeOfTag k) then orVal (partOf agg size (cellsOf k (l.getD i.toNat (dflt k))) off) else .bad
  | .grid _ _ => bif Nat.beq szt 1 && Nat.beq off 0 && !agg then .val (.gr id i) else .bad
  | _ => .bad
def gridAt (agg : Bool) (size szt : Nat) (i j : Int) (off : Nat) : Ob → OR
  | .grid k l => bif Nat.beq szt (sizeOfTag k) then orVal (partOf agg size (cellsOf k ((l.getD i.toNat []).getD j.toNat (dflt k))) off) else .bad
  | _ => .bad
def cellsAt (agg : Bool) (size off : Nat) : Ob → OR
  | .cells l => orVal (partOf agg size l off)
  | _ => .bad
def loadS (ti : TI) (h : List Ob) : SV → OR
  | .ptr id off => cellsAt ti.agg ti.size off (obAt h id)
  | .ep l off => orVal (partOf ti.agg ti.size l off)
  | .rp s id i off => rowAt ti.agg ti.size s id i off (obAt h id)
  | .gp s id i j off => gridAt ti.agg ti.size s i j off (obAt h id)
  | _ => .bad
def offS (n : Nat) : SV → OR
  | .ptr id off => .val (.ptr id (off + n))
  | .ep l off => .val (.ep l (off + n))
  | .rp s id i off => .val (.rp s id i (off + n))
  | .gp s id i j off => .val (.gp s id i j (off + n))
  | _ => .bad
def indexO (esz id : Nat) (i : Int) : Ob → OR
  | .row k l => bif Nat.beq esz (sizeOfTag k) then .chk (0 ≤ i ∧ i < (l.length : Int)) (.rp esz id i 0) else .bad
  | .grid _ l => bif Nat.beq esz 1 then .chk (0 ≤ i ∧ i < (l.length : Int)) (.rp 1 id i 0) else .bad
  | _ => .bad
def indexG (esz id : Nat) (i j : Int) : Ob → OR
  | .grid k l => bif Nat.beq esz (sizeOfTag k) then .chk (0 ≤ j ∧ j < ((l.getD i.toNat []).length : Int)) (.gp esz id i j 0) else .bad
  | _ => .bad
def indexL (i : Int) : Option SV → OR
  | some s => .chk (0 ≤ i) (.ep [s] 0)
  | none => .bad
def indexS (ti : TI) (esz : Nat) (h : List Ob) : SV → SV → OR
  | .rs k l, .v (.int _ i) => bif ti.isSlice && Nat.beq esz (sizeOfTag k) then .chk (0 ≤ i ∧ i < (l.length : Int)) (.ep (cellsOf k (l.getD i.toNat (dflt k))) 0) else .bad
  | .os id, .v (.int _ i) => bif ti.isSlice then indexO esz id i (obAt h id) else .bad
  | .gr id i, .v (.int _ j) => bif ti.isSlice then indexG esz id i j (obAt h id) else .bad
  | .ls l, .v (.int _ i) => bif ti.isSlice && Nat.beq esz 1 then indexL i (nth l i.toNat) else .bad
  | .ptr id off, .v (.int _ i) => bif ti.isArr then .chk (0 ≤ i ∧ i < (ti.len : Int)) (.ptr id (off + i.toNat * esz)) else .bad
  | .ep l off, .v (.int _ i) => bif ti.isArr then .chk (0 ≤ i ∧ i < (ti.len : Int)) (.ep l (off + i.toNat * esz)) else .bad
  | .rp s id i off, .v (.int _ j) => bif ti.isArr then .chk (0 ≤ j ∧ j < (ti.len : Int)) (.rp s id i (off + j.toNat * esz)) else .bad
  | _, _ => .bad
def fillS (place : Nat → Option (Nat × Nat)) (cells : List SV) : List (Nat × SV) → Option (List SV)
  | [] => some cells
  | (i, v) :: rest =>
    match place i, flat v with
    | some (off, size), some vs => bif Nat.beq (sz vs) size && Nat.ble (off + size) (sz cells) then fillS place (setCells cells off vs) rest else none
    | _, _ => none
def elems (k : Tag) (size : Nat) : Nat → List SV → Option (List k.T)
  | 0, _ => some []
  | n + 1, cells => match elemOf k (cut size cells), elems k size n (past size cells) with
    | some x, some xs => some (x :: xs)
    | _, _ => none
def repl (n : Nat) (z : List SV) : List SV := match n with | 0 => [] | n + 1 => z ++ repl n z
def fieldS (f : Option (Nat × Nat × Bool)) (l : Option (List SV)) : OR :=
  match f, l with
  | some (o, n, g), some l => orVal (partOf g n l o)
  | _, _ => .bad
def oneS : SV → Bool
  | .v (.agg _) => false
  | .v (.tuple _) => false
  | .any => false
  | .agg _ => false
  | .tup _ => false
  | .gd .. => false
  | .nw .. => false
  | .nm .. => false
  | .ng .. => false
  | _ => true
def allOne : List SV → Bool
  | [] => true
  | x :: r => oneS x && allOne r
def setRow (k : Tag) (id : Nat) (i : Int) (l : List k.T) : Option k.T → OR
  | some x => .eff True True [(id, .row k (l.set i.toNat x))] .any
  | none => .bad
def setGrid (k : Tag) (id : Nat) (i j : Int) (l : List (List k.T)) : Option k.T → OR
  | some x => .eff True True [(id, .grid k (l.set i.toNat ((l.getD i.toNat []).set j.toNat x)))] .any
  | none => .bad
def storeO (id off : Nat) (vs : List SV) : Ob → OR
  | .cells l => bif Nat.ble (off + sz vs) (sz l) && allOne vs then .eff True True [(id, .cells (setCells l off vs))] .any else .bad
  | _ => .bad
def storeR (s id : Nat) (i : Int) (off : Nat) (vs : List SV) : Ob → OR
  | .row k l => bif Nat.beq s (sizeOfTag k) && Nat.ble (off + sz vs) s then setRow k id i l (elemOf k (setCells (cellsOf k (l.getD i.toNat (dflt k))) off vs)) else .bad
  | _ => .bad
def storeG (s id : Nat) (i j : Int) (off : Nat) (vs : List SV) : Ob → OR
  | .grid k l => bif Nat.beq s (sizeOfTag k) && Nat.ble (off + sz vs) s then setGrid k id i j l (elemOf k (setCells (cellsOf k ((l.getD i.toNat []).getD j.toNat (dflt k))) off vs)) else .bad
  | _ => .bad
def storeS (size : Nat) (h : List Ob) : SV → Option (List SV) → OR
  | .ptr id off, some vs => bif Nat.beq (sz vs) size then storeO id off vs (obAt h id) else .bad
  | .rp s id i off, some vs => bif Nat.beq (sz vs) size then storeR s id i off vs (obAt h id) else .bad
  | .gp s id i j off, some vs => bif Nat.beq (sz vs) size then storeG s id i j off vs (obAt h id) else .bad
  | _, _ => .bad
def isGrid : Ob → Bool
  | .grid _ _ => true
  | _ => false
def storeX (k : Tag) (nx id rid : Nat) (i : Int) (l : List (List k.T)) : Option (List k.T) → OR
  | some m => .eff True True [(id, .dead), (rid, .dead), (nx, .grid k (l.set i.toNat m)), (id, .fwd (some nx))] .any
  | none => .bad
def castOb (k : Tag) : Ob → Option (List k.T)
  | .row k' l => if h : k' = k then some (h ▸ l) else none
  | _ => none
def storeW (nx : Nat) (h : List Ob) (id rid : Nat) (i : Int) : Ob → OR
  | .grid k l => storeX k nx id rid i l (castOb k (obAt h rid))
  | _ => .bad
def storeZ (size nx : Nat) (h : List Ob) : SV → SV → OR
  | .rp s id i off, .os rid => bif isGrid (obAt h id) then (bif Nat.beq size 1 && Nat.beq s 1 && Nat.beq off 0 && !(Nat.beq id rid) then storeW nx h id rid i (obAt h id) else .bad) else storeS size h (.rp s id i off) (flat (.os rid))
  | a, x => storeS size h a (flat x)
def nilS : SV → OR
  | .ptr id off => .val (.ptr id off)
  | .ep l off => .val (.ep l off)
  | .rp a b c d => .val (.rp a b c d)
  | .gp a b c d e => .val (.gp a b c d e)
  | .fn f first caps => .val (.fn f first caps)
  | _ => .bad
def convS : Option IntKind → SV → OR
  | some k, .v (.int _ n) => .val (.v (.int k (k.wrap n)))
  | _, _ => .bad
def newS (nx : Nat) : Option (List SV) → OR
  | some l => .eff True True [(nx, .cells l)] (.ptr nx 0)
  | none => .bad
def aggS : Option (List SV) → OR
  | some l => .val (.agg l)
  | none => .bad
def newrS (k : Tag) : Option (List k.T) → OR
  | some xs => .newr (.rs k xs)
  | none => .bad
def lsS (n : Nat) (l : List SV) : OR := bif Nat.beq (sz l) n && allOne l then .newr (.ls l) else .bad
def bsT (k : Tag) (ti te : TI) (n : Nat) : Option (List SV) → OR
  | some l => bif Nat.beq te.size (sizeOfTag k) && ti.isSlice && Nat.ble (n * te.size) 16777216 && Nat.beq (sz te.zero) te.size then newrS k (elems k te.size n l) else .bad
  | none => .bad
def bsU (ti te : TI) (n : Nat) : Option (List SV) → OR
  | some l => bif Nat.beq te.size 1 && ti.isSlice && Nat.ble (n * te.size) 16777216 && Nat.beq (sz te.zero) te.size then lsS n l else .bad
  | none => .bad
def noG : Option (Nat × Bool) → Bool
  | none => true
  | some _ => false
def isCv : Op → Bool
  | .call ⟨.value _, _, _⟩ => true
  | _ => false
def isAp : Op → Bool
  | .call ⟨.builtin .append, _, _⟩ => true
  | _ => false
def hasCv : List Oper → Bool
  | [] => false
  | o :: r => isCv o.op || hasCv r
def hasAp : List Oper → Bool
  | [] => false
  | o :: r => isAp o.op || hasAp r
def mixG (ops : List Oper) (g : Option (Nat × Bool)) : Option (Nat × Bool) := bif hasAp ops && hasCv ops then some (0, true) else g
def osV : SV → Bool
  | .os _ => true
  | _ => false
def isOs : List (Nat × SV) → Bool
  | [] => false
  | (_, s) :: r => osV s || isOs r
def bsG (ti te : TI) (n : Nat) (l : Option (List SV)) (os : Bool) : Option Tag → OR
  | some k => bif os then bsU ti te n l else bsT k ti te n l
  | none => bsU ti te n l
def bsS (ti te : TI) (n : Nat) (parts : List (Nat × SV)) : OR :=
  bif Nat.beq n 0 then (bif ti.isSlice && parts.isEmpty then .newr .e0 else .bad)
  else bsG ti te n (fillS (fun i => some (i * te.size, te.size)) (repl n te.zero) parts) (isOs parts) te.tag
def one {α : Type} : List α → Bool
  | [_] => true
  | _ => false
def ownS (g : Option (Nat × Bool)) (nx : Nat) (te : TI) : OR → OR
  | .newr (.rs k l) => bif (te.agg || one l) && noG g then .eff True True [(nx, .row k l)] (.os nx) else .newr (.rs k l)
  | r => r
def extS (i : Nat) : SV → OR
  | .tup l => orVal (nth l i)
  | _ => .bad
def callS (args : List SV) : SV → OR
  | .fn g first caps => .call g (first ++ args ++ caps)
  | .os id => .yld id args
  | _ => .bad
def maxL : Nat := 140737488355328
def lenO : Ob → OR
  | .row _ l => .asm (l.length ≤ maxL) (.i l.length)
  | .grid _ l => .asm (l.length ≤ maxL) (.i l.length)
  | _ => .bad
def lenG (i : Int) : Ob → OR
  | .grid _ l => .asm ((l.getD i.toNat []).length ≤ maxL) (.i (l.getD i.toNat []).length)
  | _ => .bad
def lenM (m : Option Tag) : Ob → OR
  | .mp _ _ l none => bif m.isSome then .val (.i l.length) else .bad
  | _ => .bad
def lenS (ti : TI) (h : List Ob) : List SV → OR
  | [.rs _ l] => bif ti.isSlice then .asm (l.length ≤ maxL) (.i l.length) else .bad
  | [.v (.slice none 0 0)] => bif ti.isSlice then .val (.i 0) else .bad
  | [.e0] => bif ti.isSlice then .val (.i 0) else .bad
  | [.os id] => bif ti.isSlice then lenO (obAt h id) else lenM ti.mkt (obAt h id)
  | [.gr id i] => bif ti.isSlice then lenG i (obAt h id) else .bad
  | [.ls l] => bif ti.isSlice then .val (.i (sz l)) else .bad
  | _ => .bad
def minS : List SV → OR
  | [.v (.int k a), .v (.int _ b)] => .val (.v (.int k (if b < a then b else a)))
  | _ => .bad
def maxS : List SV → OR
  | [.v (.int k a), .v (.int _ b)] => .val (.v (.int k (if a < b then b else a)))
  | _ => .bad
def panS : SV → OR
  | .v (.iface t y) => .pan (.iface t y)
  | _ => .bad
def ifaceS (t : TypeId) : SV → OR
  | .v (.int k n) => .val (.v (.iface t (.int k n)))
  | _ => .bad
def funcS (fn : Fn) (first caps : List SV) : OR :=
  match fn with
  | .func f => .val (.fn f first caps)
  | _ => .bad
def maxB : Nat := 140737488355328
def castE (k : Tag) (k' : Tag) (l : List k'.T) : Option (List k.T) := if h : k' = k then some (h ▸ l) else none
def srcO (k : Tag) : Ob → Option (List k.T)
  | .row k' l => castE k k' l
  | _ => none
def srcV (k : Tag) (s : Nat) (lo hi : Int) : Ob → Option (List k.T)
  | .row k' l => bif Nat.beq s (sizeOfTag k') then castE k k' ((l.take hi.toNat).drop lo.toNat) else none
  | _ => none
def srcS (k : Tag) (h : List Ob) : SV → Option (List k.T)
  | .rs k' l => castE k k' l
  | .v (.slice none 0 0) => some []
  | .e0 => some []
  | .os id => srcO k (obAt h id)
  | .vw s id lo hi => srcV k s lo hi (obAt h id)
  | _ => none
def appR (k : Tag) (nx bytes : Nat) (kill : List Up) (l : List k.T) : Option (List k.T) → OR
  | some m => .eff ((l ++ m).length * bytes ≤ maxB) ((l ++ m).length ≤ maxL) (kill ++ [(nx, .row k (l ++ m))]) (.os nx)
  | none => .bad
def appO (te : TI) (nx : Nat) (kill : List Up) (h : List Ob) (src : SV) : Ob → OR
  | .row k l => bif Nat.beq te.size (sizeOfTag k) && Nat.beq (sz te.zero) te.size && Nat.ble 1 te.bytes then appR k nx te.bytes kill l (srcS k h src) else .bad
  | _ => .bad
def appGs (k : Tag) (nx bytes id2 : Nat) (kill : List Up) (l : List (List k.T)) : Option (List k.T) → OR
  | some m => .eff ((l ++ [m]).length * bytes ≤ maxB) ((l ++ [m]).length ≤ maxL) (kill ++ [(id2, .dead), (nx, .grid k (l ++ [m]))]) (.os nx)
  | none => .bad
def appGo (nx bytes : Nat) (h : List Ob) (id2 : Nat) (kill : List Up) : Ob → OR
  | .grid k l => appGs k nx bytes id2 kill l (srcO k (obAt h id2))
  | _ => .bad
def appN (nx bytes id2 : Nat) : Ob → OR
  | .row k m => appGs k nx bytes id2 [] [] (some m)
  | _ => .bad
def appT (te : TI) (nx : Nat) (h : List Ob) (src : SV) : Option Tag → OR
  | some k => appO te nx [] h src (.row k [])
  | none => .bad
def appS (te : TI) (nx : Nat) (h : List Ob) : List SV → OR
  | [.os id, .ls [.os id2]] => bif Nat.beq te.size 1 && Nat.beq (sz te.zero) 1 && Nat.ble 1 te.bytes && !(Nat.beq id id2) then appGo nx te.bytes h id2 [(id, .dead)] (obAt h id) else .bad
  | [.v (.slice none 0 0), .ls [.os id2]] => bif Nat.beq te.size 1 && Nat.beq (sz te.zero) 1 && Nat.ble 1 te.bytes then appN nx te.bytes id2 (obAt h id2) else .bad
  | [.os id, src] => appO te nx [(id, .dead)] h src (obAt h id)
  | [.v (.slice none 0 0), src] => appT te nx h src te.tag
  | [.e0, src] => appT te nx h src te.tag
  | _ => .bad
def mkT (nx : Nat) (n c : Int) (te : TI) : Option Tag → OR
  | some k => .eff (n = c ∧ 0 ≤ n ∧ n * te.bytes ≤ maxB) (n ≤ maxL) [(nx, .row k (List.replicate n.toNat (dflt k)))] (.os nx)
  | none => .bad
def mkS (nx : Nat) (te : TI) : SV → SV → OR
  | .v (.int .i64 n), .v (.int .i64 c) => mkT nx n c te te.tag
  | _, _ => .bad
def zNil : List SV → Bool
  | [.v (.slice none 0 0)] => true
  | _ => false
def mkGr (nx : Nat) (n c : Int) (te : TI) : Option Tag → OR
  | some k => bif Nat.beq te.size 1 && zNil te.zero && Nat.ble 1 te.bytes then .eff (n = c ∧ 0 ≤ n ∧ n * te.bytes ≤ maxB) (n ≤ maxL) [(nx, .grid k (List.replicate n.toNat []))] (.os nx) else .bad
  | none => .bad
def mkGS (nx : Nat) (te tr : TI) : SV → SV → OR
  | .v (.int .i64 n), .v (.int .i64 c) => mkGr nx n c te tr.tag
  | _, _ => .bad
def bnd (d : Int) : Option SV → Option Int
  | none => some d
  | some (.v (.int _ n)) => some n
  | _ => none
def cutS (k : Tag) (l : List k.T) : Option Int → Option Int → OR
  | some lo, some hi => .chk (0 ≤ lo ∧ lo ≤ hi ∧ hi ≤ (l.length : Int)) (.rs k ((l.take hi.toNat).drop lo.toNat))
  | _, _ => .bad
def cutN (id nx : Nat) (k : Tag) (l : List k.T) : Option Int → Option Int → OR
  | some lo, some hi => .eff (0 ≤ lo ∧ lo ≤ hi ∧ hi ≤ (l.length : Int)) True [(id, .dead), (nx, .row k ((l.take hi.toNat).drop lo.toNat))] (.os nx)
  | _, _ => .bad
def cutO (esz id nx : Nat) (lo hi : Option SV) : Ob → OR
  | .row k l => bif Nat.beq esz (sizeOfTag k) then cutN id nx k l (bnd 0 lo) (bnd l.length hi) else .bad
  | _ => .bad
def viewN (esz id n : Nat) : Option Int → OR
  | some a => .chk (0 ≤ a ∧ a ≤ (n : Int)) (.vw esz id a n)
  | none => .bad
def viewO (esz id : Nat) (lo : Option SV) : Ob → OR
  | .row k l => bif Nat.beq esz (sizeOfTag k) then viewN esz id l.length (bnd 0 lo) else .bad
  | _ => .bad
def sliceS (ti : TI) (esz nx : Nat) (h : List Ob) (lo hi : Option SV) (vq : Bool) : SV → OR
  | .rs k l => bif ti.isSlice && Nat.beq esz (sizeOfTag k) then cutS k l (bnd 0 lo) (bnd l.length hi) else .bad
  | .os id => bif ti.isSlice then (bif vq then viewO esz id lo (obAt h id) else cutO esz id nx lo hi (obAt h id)) else .bad
  | _ => .bad
def lookR (kk vk : Tag) (l : List (kk.T × vk.T)) (ok : Bool) : Option kk.T → OR
  | some x => bif ok then .val (.tup [svT vk (mgetT kk vk l x), .b (mhasT kk vk l x)]) else .val (svT vk (mgetT kk vk l x))
  | none => .bad
def beqT (a : Tag) : Option Tag → Bool
  | some b => Nat.beq (tagN a) (tagN b)
  | none => false
def noneO {α : Type} : Option α → Bool
  | none => true
  | some _ => false
def lookO (ti : TI) (key : SV) (ok : Bool) : Ob → OR
  | .mp kk vk l pend => bif beqT kk ti.mkt && beqT vk ti.mvt && (!ok || noneO pend) then lookR kk vk l ok (unT kk key) else .bad
  | _ => .bad
def lookN (key : SV) (ok : Bool) : Option Tag → Option Tag → OR
  | some kk, some vk => lookR kk vk [] ok (unT kk key)
  | _, _ => .bad
def lookS (ti : TI) (h : List Ob) (ok : Bool) (key : SV) : SV → OR
  | .os id => lookO ti key ok (obAt h id)
  | .rm kk vk l => bif beqT kk ti.mkt && beqT vk ti.mvt then lookR kk vk l ok (unT kk key) else .bad
  | .v (.map none) => lookN key ok ti.mkt ti.mvt
  | _ => .bad
def updR (id : Nat) (kk vk : Tag) (l : List (kk.T × vk.T)) : Option kk.T → Option vk.T → OR
  | some x, some y => .eff True True [(id, .mp kk vk (mupdT kk vk l x y) none)] .any
  | _, _ => .bad
def updO (ti : TI) (id : Nat) (key v : SV) : Ob → OR
  | .mp kk vk l none => bif beqT kk ti.mkt && beqT vk ti.mvt then updR id kk vk l (unT kk key) (unT vk v) else .bad
  | _ => .bad
def updS (ti : TI) (h : List Ob) (key v : SV) : SV → OR
  | .os id => updO ti id key v (obAt h id)
  | _ => .bad
def entR (id : Nat) (kk vk : Tag) (l : List (kk.T × vk.T)) : Option kk.T → OR
  | some x => .eff True True [(id, .mp kk vk l (some x))] (.tup [svT vk (mgetT kk vk l x), .v (.int .i64 (mposT kk vk l x))])
  | none => .bad
def entO (ti : TI) (id : Nat) (key : SV) : Ob → OR
  | .mp kk vk l none => bif beqT kk ti.mkt && beqT vk ti.mvt then entR id kk vk l (unT kk key) else .bad
  | _ => .bad
def entS (ti : TI) (h : List Ob) (key : SV) : SV → OR
  | .os id => entO ti id key (obAt h id)
  | _ => .bad
def estR (id : Nat) (kk vk : Tag) (l : List (kk.T × vk.T)) (x : kk.T) (n : Int) : Option vk.T → OR
  | some y => .eff (n = (mposT kk vk l x : Int)) True [(id, .mp kk vk (mupdT kk vk l x y) none)] .any
  | none => .bad
def estO (ti : TI) (id : Nat) (n : Int) (v : SV) : Ob → OR
  | .mp kk vk l (some x) => bif beqT kk ti.mkt && beqT vk ti.mvt then estR id kk vk l x n (unT vk v) else .bad
  | _ => .bad
def estS (ti : TI) (h : List Ob) (v : SV) : SV → SV → OR
  | .os id, .v (.int _ n) => estO ti id n v (obAt h id)
  | _, _ => .bad
def mmR (nx : Nat) : Option Tag → Option Tag → OR
  | some kk, some vk => .eff True True [(nx, .mp kk vk [] none)] (.os nx)
  | _, _ => .bad
def zsO (z : List SV) : OR := .val (.tup [.agg z, .b false])
def taS (t : TypeId) (ok : Bool) (ti : TI) : SV → OR
  | .v (.iface t' y) => bif ti.iface then .bad else bif Nat.beq t' t then (bif ok then .val (.tup [.v y, .b true]) else .val (.v y)) else .bad
  | _ => .bad
def rngO (ti : TI) (nx id : Nat) : Ob → OR
  | .mp kk vk l none => bif beqT kk ti.mkt && beqT vk ti.mvt then .eff True True [(nx, .mi (some id) l.length (List.range l.length) none)] (.ptr nx 0) else .bad
  | _ => .bad
def rngS (ti : TI) (nx : Nat) (h : List Ob) : SV → OR
  | .os id => rngO ti nx id (obAt h id)
  | _ => .bad
def nxtS : SV → OR
  | .ptr id 0 => .nxt id
  | _ => .bad
def entrM (n j : Nat) : Ob → OR
  | .mp kk vk l none => .chk (n = l.length ∧ j < n) (.tup [svT kk (l.getD j (dflt kk, dflt vk)).1, svT vk (l.getD j (dflt kk, dflt vk)).2])
  | _ => .bad
def entrO (h : List Ob) : Ob → OR
  | .mi (some mid) n _ (some j) => entrM n j (obAt h mid)
  | _ => .bad
def entrS (h : List Ob) : SV → OR
  | .ptr id 0 => entrO h (obAt h id)
  | _ => .bad
def opS (cx : Cx) : Op → OR
  | .move x => .val (val cx x)
  | .assign x => .val (val cx x)
  | .pick c a b => pickB a b (val cx c) (pickSide cx.ops cx.g c true (raw cx.st.t a)) (pickSide cx.ops cx.g c false (raw cx.st.t b))
  | .alloc t => getTI cx.ts t fun ti => newS cx.nx (some ti.zero)
  | .box _ x => newS cx.nx (flat (val cx x))
  | .build t parts => getTI cx.ts t fun ti =>
    bif ti.isArr then getTI cx.ts ti.elem fun te => aggS (fillS (fun i => some (i * te.size, te.size)) ti.zero (pvals cx parts.toList))
    else bif ti.agg then aggS (fillS (fun i => (nth ti.fields i).map fun f => (f.1, f.2.1)) ti.zero (pvals cx parts.toList))
    else .bad
  | .buildSlice t n parts => getTI cx.ts t fun ti => getTI cx.ts ti.elem fun te => ownS (mixG cx.ops cx.g) cx.nx te (bsS ti te n (pvals cx parts.toList))
  | .load t a => getTI cx.ts t fun ti => loadS ti cx.st.h (val cx a)
  | .store t a x => getTI cx.ts t fun ti => storeZ ti.size cx.nx cx.st.h (val cx a) (val cx x)
  | .nilCheck x => nilS (val cx x)
  | .binOp op t x y _ => binA cx.ts op t (val cx x) (val cx y)
  | .unOp op _ x => unS op (val cx x)
  | .convert src dst x => getTI cx.ts src fun _ => getTI cx.ts dst fun ti => convS ti.int (val cx x)
  | .makeFunc fn first captured => funcS fn (vals cx first.toList) (vals cx captured.toList)
  | .fieldAddr t x f => getTI cx.ts t fun ti => match nth ti.fields f with | some (o, n, _) => bif Nat.ble 1 n then offS o (val cx x) else .bad | none => .bad
  | .field t x f => getTI cx.ts t fun ti => fieldS (nth ti.fields f) (aggL (val cx x))
  | .indexAddr t x i => getTI cx.ts t fun ti => getTI cx.ts ti.elem fun te => indexS ti te.size cx.st.h (val cx x) (val cx i)
  | .extract x i => extS i (val cx x)
  | .panic x => panS (val cx x)
  | .makeInterface t x => getTI cx.ts t fun ti => bif ti.iface then .bad else ifaceS t (val cx x)
  | .makeSlice t n c => getTI cx.ts t fun ti => getTI cx.ts ti.elem fun te => bif ti.isSlice then (bif te.isSlice then getTI cx.ts te.elem fun tr => mkGS cx.nx te tr (val cx n) (val cx c) else mkS cx.nx te (val cx n) (val cx c)) else .bad
  | .slice t x lo hi none => getTI cx.ts t fun ti => getTI cx.ts ti.elem fun te => sliceS ti te.size cx.nx cx.st.h (valO cx lo) (valO cx hi) (noneO hi && hasAp cx.ops) (val cx x)
  | .makeMap t none => getTI cx.ts t fun ti => mmR cx.nx ti.mkt ti.mvt
  | .lookup t m k ok => getTI cx.ts t fun ti => lookS ti cx.st.h ok (val cx k) (val cx m)
  | .mapUpdate t m k v => getTI cx.ts t fun ti => updS ti cx.st.h (val cx k) (val cx v) (val cx m)
  | .mapEntry t m k => getTI cx.ts t fun ti => entS ti cx.st.h (val cx k) (val cx m)
  | .entryStore t m s v => getTI cx.ts t fun ti => estS ti cx.st.h (val cx v) (val cx m) (val cx s)
  | .range t m => getTI cx.ts t fun ti => rngS ti cx.nx cx.st.h (val cx m)
  | .next it false => nxtS (val cx it)
  | .entry it => entrS cx.st.h (val cx it)
  | .typeAssert x _ t ok => getTI cx.ts t fun ti => taS t ok ti (val cx x)
  | .call ⟨.value f, args, _⟩ => callS (vals cx args.toList) (val cx f)
  | .call ⟨.builtin .len, args, tys⟩ => match tys.toList with | [t] => getTI cx.ts t fun ti => lenS ti cx.st.h (vals cx args.toList) | _ => .bad
  | .call ⟨.builtin .min, args, _⟩ => minS (vals cx args.toList)
  | .call ⟨.builtin .max, args, _⟩ => maxS (vals cx args.toList)
  | .call ⟨.builtin .append, args, tys⟩ => match tys.toList with | [t, t2] => getTI cx.ts t fun ti => getTI cx.ts t2 fun ti2 => getTI cx.ts ti.elem fun te => bif ti.isSlice && ti2.isSlice then appS te cx.nx cx.st.h (vals cx args.toList) else .bad | _ => .bad
  | _ => .bad
structure Fp where
  all : Bool
  rd : List Nat
  wk : List Nat
  tc : List Nat
  wt : List Nat
def idsV : SV → List Nat
  | .ptr id _ => [id]
  | .os id => [id]
  | .rp _ id _ _ => [id]
  | .gr id _ => [id]
  | .gp _ id _ _ _ => [id]
  | .vw _ id _ _ => [id]
  | _ => []
def idsL : SV → List Nat
  | .ls [.os id] => [id]
  | s => idsV s
def idsM : List SV → List Nat
  | [] => []
  | s :: r => idsL s ++ idsM r
def midOf : Ob → List Nat
  | .mi (some mid) _ _ _ => [mid]
  | _ => []
def midS (h : List Ob) : SV → List Nat
  | .ptr id _ => midOf (obAt h id)
  | _ => []
def fpO (cx : Cx) : Op → List Nat × List Nat
  | .range _ m => (idsV (val cx m), [])
  | .entry it => (idsV (val cx it) ++ midS cx.st.h (val cx it), [])
  | .load _ a => (idsV (val cx a), [])
  | .store _ a x => (idsV (val cx a) ++ idsV (val cx x), [])
  | .indexAddr _ x _ => (idsV (val cx x), [])
  | .slice _ x _ _ _ => (idsV (val cx x), [])
  | .lookup _ m _ ok => bif ok then (idsV (val cx m), []) else ([], idsV (val cx m))
  | .mapUpdate _ m _ _ => (idsV (val cx m), [])
  | .mapEntry _ m _ => (idsV (val cx m), [])
  | .entryStore _ m _ _ => (idsV (val cx m), [])
  | .call ⟨.builtin .len, args, _⟩ => (idsM (vals cx args.toList), [])
  | .call ⟨.builtin .append, args, _⟩ => (idsM (vals cx args.toList), [])
  | _ => ([], [])
def upIds : List Up → List Nat
  | [] => []
  | (id, _) :: r => id :: upIds r
def isEntry : Op → Bool
  | .mapEntry .. => true
  | _ => false
def fpU (o : Op) (x : List Nat × List Nat) (all : Bool) (ups : List Up) : Fp :=
  bif isEntry o then ⟨all, x.1, x.2, [], upIds ups⟩ else ⟨all, x.1, x.2, upIds ups, []⟩
def ancE (as : List Nat) : List Edge → Nat
  | [] => 0
  | e :: r => bif Region.binds .any e then Nat.lor (Nat.lor ((nth as e.on).getD 0) (Nat.shiftLeft 1 e.on)) (ancE as r) else ancE as r
def ancL : List Oper → List Nat → List Nat
  | [], as => as
  | o :: r, as => ancL r (as ++ [ancE as o.after.toList])
def bitAt (as : List Nat) (i j : Nat) : Bool := Nat.testBit ((nth as i).getD 0) j
def memN (n : Nat) : List Nat → Bool
  | [] => false
  | m :: r => bif Nat.beq m n then true else memN n r
def meets : List Nat → List Nat → Bool
  | [], _ => false
  | a :: r, l => bif memN a l then true else meets r l
def clash (i e : Fp) : Bool :=
  (i.all && !(e.tc.isEmpty && e.wt.isEmpty)) || meets i.rd e.tc || meets i.rd e.wt || meets i.wk e.tc || meets i.tc e.tc || meets i.tc e.wt || meets i.wt e.tc || meets i.wt e.wt
def okOne (as : List Nat) (i : Nat) (x : Fp) : Nat → List Fp → Bool
  | _, [] => true
  | j, y :: r => (Nat.beq i j || !(clash x y) || (Nat.blt j i && bitAt as i j) || (Nat.blt i j && bitAt as j i)) && okOne as i x (j + 1) r
def okAll (as : List Nat) (b : Nat) (all : List Fp) : Nat → List Fp → Bool
  | _, [] => true
  | i, x :: r => okOne as i x b all && okAll as b all (i + 1) r
def okFps (ops : List Oper) (b : Nat) (fps : List Fp) : Bool := okAll (ancL ops []) b fps b fps
def still : List Fp → Bool
  | [] => true
  | x :: r => x.tc.isEmpty && x.wt.isEmpty && still r
def okSeg (ops : List Oper) (b : Nat) (fps : List Fp) : Prop := bif still fps then True else okFps ops b fps = true
def cutAtB (as : List Nat) (c : Nat) : Nat → List Oper → Bool
  | _, [] => true
  | i, _ :: r => (Nat.beq i c || (Nat.blt i c && bitAt as c i) || (Nat.blt c i && bitAt as i c)) && cutAtB as c (i + 1) r
def isCut (ops : List Oper) (c : Nat) : Bool := cutAtB (ancL ops []) c 0 ops
def guardP (ops : List Oper) (t : List (Nat × SV)) : Nat → Nat × Bool → Prop
  | 0, _ => True
  | n + 1, (j, want) => match (nth ops j).bind (·.dst) with
    | some d => match lk d t with
      | .v (.bool x) => x = want
      | .gd j' b (.v (.bool x)) => guardP ops t n (j', b) ∧ x = want
      | _ => True
    | none => True
def guardN (ops : List Oper) (t : List (Nat × SV)) : Nat → Nat × Bool → Prop
  | 0, _ => True
  | n + 1, (j, want) => match (nth ops j).bind (·.dst) with
    | some d => match lk d t with
      | .v (.bool x) => ¬ x = want
      | .gd j' b (.v (.bool x)) => guardN ops t n (j', b) ∨ ¬ x = want
      | _ => True
    | none => True
def guardF (ops : List Oper) (t : List (Nat × SV)) : Nat → Nat × Bool → Prop
  | 0, _ => False
  | n + 1, (j, want) => match (nth ops j).bind (·.dst) with
    | some d => match lk d t with
      | .v (.bool x) => ¬ x = want
      | .gd j' b (.v (.bool x)) => guardF ops t n (j', b) ∨ ¬ x = want
      | _ => False
    | none => False
def rowE (szt off : Nat) (i : Int) : Ob → SV
  | .row k l => bif Nat.beq szt (sizeOfTag k) then .ep (cellsOf k (l.getD i.toNat (dflt k))) off else .any
  | _ => .any
def gridE (szt off : Nat) (i j : Int) : Ob → SV
  | .grid k l => bif Nat.beq szt (sizeOfTag k) then .ep (cellsOf k ((l.getD i.toNat []).getD j.toNat (dflt k))) off else .any
  | _ => .any
def gridR (i : Int) : Ob → SV
  | .grid k l => .rs k (l.getD i.toNat [])
  | _ => .any
def frz : Ob → SV
  | .row k l => .rs k l
  | .mp kk vk l none => .rm kk vk l
  | .grid k l => gridS k l
  | _ => .any
def expP (f : SV → SV) (off : Nat) : Ob → SV
  | .cells l => .ep (l.map f) off
  | _ => .any
def expS (h : List Ob) : Nat → SV → SV
  | _, .v x => .v x
  | _, .rs k l => .rs k l
  | _, .e0 => .e0
  | _, .rm k k2 l => .rm k k2 l
  | _, .os id => frz (obAt h id)
  | _, .rp s id i off => bif Nat.beq s 0 then .any else rowE s off i (obAt h id)
  | _, .gp s id i j off => bif Nat.beq s 0 then .any else gridE s off i j (obAt h id)
  | _, .gr id i => gridR i (obAt h id)
  | n + 1, .ptr id off => expP (expS h n) off (obAt h id)
  | n + 1, .ep l off => .ep (l.map (expS h n)) off
  | n + 1, .ls l => .ls (l.map (expS h n))
  | n + 1, .agg l => .agg (l.map (expS h n))
  | n + 1, .tup l => .tup (l.map (expS h n))
  | n + 1, .fn f first caps => .fn f (first.map (expS h n)) (caps.map (expS h n))
  | _, _ => .any
def ungd : List (Nat × SV) → List (Nat × SV)
  | [] => []
  | (d, .gd ..) :: r => (d, .any) :: ungd r
  | x :: r => x :: ungd r
def noPtr : Nat → SV → Bool
  | _, .v _ => true
  | _, .rs _ _ => true
  | _, .rm _ _ _ => true
  | _, .e0 => true
  | _, .any => true
  | n + 1, .ep l _ => l.all (noPtr n)
  | n + 1, .ls l => l.all (noPtr n)
  | n + 1, .agg l => l.all (noPtr n)
  | n + 1, .tup l => l.all (noPtr n)
  | n + 1, .fn _ l m => l.all (noPtr n) && m.all (noPtr n)
  | _, _ => false
def scal : Nat → SV → Bool
  | _, .v _ => true
  | _, .nw k _ => Nat.beq (rank k) 0
  | _, .nm k k2 _ => Nat.beq (rank k) 0 && Nat.beq (rank k2) 0
  | _, .ng k _ => Nat.beq (rank k) 0
  | n + 1, .agg l => l.all (scal n)
  | n + 1, .tup l => l.all (scal n)
  | _, _ => false
def rowsOf : Nat → SV → List Ob
  | _, .nw k l => [.row k l]
  | _, .nm k k2 l => [.mp k k2 l none]
  | _, .ng k l => [.grid k l]
  | n + 1, .agg l => l.flatMap (rowsOf n)
  | n + 1, .tup l => l.flatMap (rowsOf n)
  | _, _ => []
def adoptL (f : Nat → SV → SV) (c : SV → Nat) : Nat → List SV → List SV
  | _, [] => []
  | b, x :: r => f b x :: adoptL f c (b + c x) r
def adopt : Nat → Nat → SV → SV
  | _, b, .nw _ _ => .os b
  | _, b, .nm _ _ _ => .os b
  | _, b, .ng _ _ => .os b
  | n + 1, b, .agg l => .agg (adoptL (adopt n) (fun s => (rowsOf n s).length) b l)
  | n + 1, b, .tup l => .tup (adoptL (adopt n) (fun s => (rowsOf n s).length) b l)
  | _, _, s => s
def idsS : Nat → SV → List Nat
  | _, .ptr id _ => [id]
  | _, .os id => [id]
  | _, .rp _ id _ _ => [id]
  | _, .gr id _ => [id]
  | _, .gp _ id _ _ _ => [id]
  | _, .vw _ id _ _ => [id]
  | n + 1, .ep l _ => l.flatMap (idsS n)
  | n + 1, .ls l => l.flatMap (idsS n)
  | n + 1, .agg l => l.flatMap (idsS n)
  | n + 1, .tup l => l.flatMap (idsS n)
  | n + 1, .fn _ l m => l.flatMap (idsS n) ++ m.flatMap (idsS n)
  | n + 1, .gd _ _ s => idsS n s
  | _, _ => []
def idsOb : Ob → List Nat
  | .cells l => l.flatMap (idsS 3)
  | _ => []
def reach (h : List Ob) : Nat → List Nat → List Nat → List Nat
  | 0, _, acc => acc
  | _ + 1, [], acc => acc
  | n + 1, id :: todo, acc => bif memN id acc then reach h n todo acc else reach h n (idsOb (obAt h id) ++ todo) (acc ++ [id])
def posN (id : Nat) : List Nat → Option Nat
  | [] => none
  | a :: r => bif Nat.beq a id then some 0 else (posN id r).map (· + 1)
def renI (f : Nat → SV) : Option Nat → SV
  | some k => f k
  | none => .any
def ren (m : Nat → Option Nat) : Nat → SV → SV
  | _, .ptr id off => renI (fun k => .ptr k off) (m id)
  | _, .os id => renI (fun k => .os k) (m id)
  | _, .rp s id i off => renI (fun k => .rp s k i off) (m id)
  | _, .gr id i => renI (fun k => .gr k i) (m id)
  | _, .gp s id i j off => renI (fun k => .gp s k i j off) (m id)
  | _, .vw s id lo hi => renI (fun k => .vw s k lo hi) (m id)
  | n + 1, .ep l o => .ep (l.map (ren m n)) o
  | n + 1, .ls l => .ls (l.map (ren m n))
  | n + 1, .agg l => .agg (l.map (ren m n))
  | n + 1, .tup l => .tup (l.map (ren m n))
  | n + 1, .fn f l l2 => .fn f (l.map (ren m n)) (l2.map (ren m n))
  | _, .any => .any
  | _, .v x => .v x
  | _, .e0 => .e0
  | _, .rs k l => .rs k l
  | _, .rm k k2 l => .rm k k2 l
  | _, _ => .any
def renO (m : Nat → Option Nat) : Ob → Ob
  | .cells l => .cells (l.map (ren m 3))
  | .mi mid n left cur => .mi (mid.bind m) n left cur
  | .fwd n => .fwd (n.bind m)
  | o => o
def inN (ids : List Nat) (i : Nat) : Option Nat := posN i ids
def mini (h : List Ob) (ids : List Nat) : List Ob := ids.map fun id => renO (inN ids) (obAt h id)
def backN (ids : List Nat) (b : Nat) (k : Nat) : Option Nat := match nth ids k with | some id => some id | none => some (b + (k - ids.length))
def backI (ids : List Nat) (b : Nat) (k : Nat) : Nat := match nth ids k with | some id => id | none => b + (k - ids.length)
def backH (ids : List Nat) (b : Nat) (h : List Ob) : Nat → List Ob → List Ob
  | _, [] => h
  | k, o :: r => backH ids b (obSet h (backI ids b k) (renO (backN ids b) o)) (k + 1) r
def resN (ids : List Nat) (d : Option Nat) (st : St) (K : St → Prop) (Z : Value → St → Prop) : Rs → Prop
  | .ret s h => K (St.put ⟨st.t, backH ids st.h.length st.h 0 h⟩ d (ren (backN ids st.h.length) 3 s))
  | .pan x h => Z x ⟨ungd st.t, backH ids st.h.length st.h 0 h⟩
def resG (ids : List Nat) (g : Nat × Bool) (d : Option Nat) (st : St) (K : St → Prop) (Z : Value → St → Prop) : Rs → Prop
  | .ret s h => K (St.put ⟨st.t, backH ids st.h.length st.h 0 h⟩ d (.gd g.1 g.2 (ren (backN ids st.h.length) 3 s)))
  | .pan x h => Z x ⟨ungd st.t, backH ids st.h.length st.h 0 h⟩
def callH (ids : List Nat) (d : Option Nat) (st : St) (K : St → Prop) (Z : Value → St → Prop) : Option HCon → Prop
  | some c => c.pre ∧ ∀ r, c.post r → resN ids d st K Z (c.res r)
  | none => False
def callHG (ids : List Nat) (ops : List Oper) (g : Nat × Bool) (d : Option Nat) (st : St) (K : St → Prop) (Z : Value → St → Prop) : Option HCon → Prop
  | some c => (guardP ops st.t ops.length g → c.pre ∧ ∀ r, c.post r → resG ids g d st K Z (c.res r)) ∧ (guardN ops st.t ops.length g → K (st.put d (.gd g.1 g.2 .any)))
  | none => False
def callN (np : Bool) (ids : List Nat) (d : Option Nat) (st : St) (K : St → Prop) (Z : Value → St → Prop) (c : Option HCon) : Option Con → Prop
  | some (.det p s) => bif np || scal 3 s then (p ∧ K (St.put ⟨st.t, st.h ++ rowsOf 3 s⟩ d (adopt 3 st.h.length s))) else callH ids d st K Z c
  | some (.rel _ pre post out) => pre ∧ (bif np then ∀ r, post r → K (St.put ⟨st.t, st.h ++ rowsOf 3 (out r)⟩ d (adopt 3 st.h.length (out r))) else False)
  | some (.may ok s x) => bif np || scal 3 s then (ok = true → K (St.put ⟨st.t, st.h ++ rowsOf 3 s⟩ d (adopt 3 st.h.length s))) ∧ (ok = false → Z x ⟨ungd st.t, st.h⟩) else False
  | none => callH ids d st K Z c
def callG (np : Bool) (ids : List Nat) (ops : List Oper) (g : Nat × Bool) (d : Option Nat) (st : St) (K : St → Prop) (Z : Value → St → Prop) (c : Option HCon) : Option Con → Prop
  | some (.det p s) => (guardP ops st.t ops.length g → p) ∧ (bif (np || scal 3 s) && (rowsOf 3 s).isEmpty then K (st.put d (.gd g.1 g.2 s)) else False)
  | none => callHG ids ops g d st K Z c
  | _ => False
def yldR (id : Nat) (d : Option Nat) (st : St) (K : St → Prop) : Option YCon → Prop
  | some c => c.pre ∧ ∀ r, c.post r → K (St.put ⟨st.t, obSet st.h id (.ab (c.res r).2)⟩ d (.b (c.res r).1))
  | none => False
def yldG (id : Nat) (ops : List Oper) (g : Nat × Bool) (d : Option Nat) (st : St) (K : St → Prop) : Option YCon → Prop
  | some c => (guardP ops st.t ops.length g → c.pre ∧ ∀ r, c.post r → K (St.put ⟨st.t, obSet st.h id (.ab (c.res r).2)⟩ d (.gd g.1 g.2 (.b (c.res r).1)))) ∧ (guardN ops st.t ops.length g → K (st.put d (.gd g.1 g.2 .any)))
  | none => False
def yldO (G : Cons) (args : List SV) : Ob → Option YCon
  | .ab r => G.y args r
  | _ => none
def nxtM (id mid n : Nat) (left : List Nat) (d : Option Nat) (st : St) (next : St → Prop) : Ob → Prop
  | .mp kk vk l none => n = l.length ∧ (left = [] → next (st.put d (.tup [.v (.bool false)]))) ∧
      ∀ j, j ∈ left → next (St.put ⟨st.t, obSet st.h id (.mi (some mid) n (left.erase j) (some j))⟩ d (.tup [.v (.bool true), svT kk (l.getD j (dflt kk, dflt vk)).1, svT vk (l.getD j (dflt kk, dflt vk)).2]))
  | _ => False
def nxtN (id : Nat) (d : Option Nat) (st : St) (next : St → Prop) : Ob → Prop
  | .mi (some mid) n left _ => nxtM id mid n left d st next (obAt st.h mid)
  | _ => False
def stepN (G : Cons) (d : Option Nat) (st : St) (next : St → Prop) (Z : Value → St → Prop) : OR → Prop
  | .val s => next (st.put d s)
  | .chk c s => c ∧ next (st.put d s)
  | .asm c s => c → next (st.put d s)
  | .newr s => next (st.put d s)
  | .eff c a ups s => c ∧ (a → next (St.put ⟨st.t, obSets st.h ups⟩ d s))
  | .call f args => callN (args.all (noPtr 3)) (reach st.h 64 (args.flatMap (idsS 3)) []) d st next Z (G.o f (args.map (ren (inN (reach st.h 64 (args.flatMap (idsS 3)) [])) 6)) (mini st.h (reach st.h 64 (args.flatMap (idsS 3)) []))) (G.p f (args.map (expS st.h 6)))
  | .yld id args => bif args.all (noPtr 3) then yldR id d st next (yldO G args (obAt st.h id)) else False
  | .nxt id => nxtN id d st next (obAt st.h id)
  | .amb p => ∀ b, p b → next (st.put d (.v (.bool b)))
  | .pan x => Z x ⟨ungd st.t, st.h⟩
  | .bad => False
def stepG (G : Cons) (ops : List Oper) (g : Nat × Bool) (d : Option Nat) (st : St) (next : St → Prop) (Z : Value → St → Prop) : OR → Prop
  | .val s => next (st.put d (.gd g.1 g.2 s))
  | .chk c s => (guardP ops st.t ops.length g → c) ∧ next (st.put d (.gd g.1 g.2 s))
  | .asm _ s => next (st.put d (.gd g.1 g.2 s))
  | .newr s => next (st.put d (.gd g.1 g.2 s))
  | .eff c a ups s => (guardP ops st.t ops.length g → c ∧ (a → next (St.put ⟨st.t, obSets st.h ups⟩ d (.gd g.1 g.2 s)))) ∧ (guardN ops st.t ops.length g → next (st.put d (.gd g.1 g.2 .any)))
  | .call f args => callG (args.all (noPtr 3)) (reach st.h 64 (args.flatMap (idsS 3)) []) ops g d st next Z (G.o f (args.map (ren (inN (reach st.h 64 (args.flatMap (idsS 3)) [])) 6)) (mini st.h (reach st.h 64 (args.flatMap (idsS 3)) []))) (G.p f (args.map (expS st.h 6)))
  | .yld id args => bif args.all (noPtr 3) then yldG id ops g d st next (yldO G args (obAt st.h id)) else False
  | .bad => guardF ops st.t ops.length g ∧ next (st.put d (.gd g.1 g.2 .any))
  | .nxt _ => False
  | .amb _ => False
  | .pan _ => False
def execOps (ts : Tis) (G : Cons) (ops : List Oper) : List Oper → St → (St → Prop) → (Value → St → Prop) → Prop
  | [], st, K, _ => K st
  | o :: rest, st, K, Z => match o.guard with
    | none => stepN G o.dst st (fun st' => execOps ts G ops rest st' K Z) Z (opS ⟨ts, ops, none, st, st.h.length⟩ o.op)
    | some g => stepG G ops g o.dst st (fun st' => execOps ts G ops rest st' K Z) Z (opS ⟨ts, ops, some g, st, st.h.length⟩ o.op)
structure Dr where
  c : Prop
  a : Prop
  s : SV
  ups : List Up
  all : Bool
def drR (np : Bool) (nx : Nat) (p : Prop) (s : SV) : List Ob → Option Dr
  | [] => bif np || scal 3 s then some ⟨p, True, s, [], true⟩ else none
  | [ob] => bif np || scal 3 s then some ⟨p, True, adopt 3 nx s, [(nx, ob)], true⟩ else none
  | _ => none
def drC (np : Bool) (nx : Nat) : Option Con → Option Dr
  | some (.det p s) => drR np nx p s (rowsOf 3 s)
  | _ => none
def drOf (G : Cons) (h : List Ob) (nx : Nat) : OR → Option Dr
  | .val s => some ⟨True, True, s, [], false⟩
  | .chk c s => some ⟨c, True, s, [], false⟩
  | .asm c s => some ⟨True, c, s, [], false⟩
  | .newr s => some ⟨True, True, s, [], false⟩
  | .eff c a ups s => some ⟨c, a, s, ups, false⟩
  | .call f args => drC (args.all (noPtr 3)) nx (G.p f (args.map (expS h 6)))
  | _ => none
def drN (d : Option Nat) (st : St) (next : Bool → List Up → St → Prop) (r : Dr) : Prop := r.c ∧ (r.a → next r.all r.ups (St.put ⟨st.t, obSets st.h r.ups⟩ d r.s))
def drG (ops : List Oper) (g : Nat × Bool) (d : Option Nat) (st : St) (next : Bool → List Up → St → Prop) (r : Dr) : Prop :=
  bif r.ups.isEmpty then (guardP ops st.t ops.length g → r.c) ∧ next r.all [] (st.put d (.gd g.1 g.2 r.s)) else False
def pieceN (d : Option Nat) (st : St) (next : Bool → List Up → St → Prop) (cutp : Prop) : Option Dr → Prop
  | some r => drN d st next r
  | none => cutp
def pieceG (ops : List Oper) (g : Nat × Bool) (d : Option Nat) (st : St) (next : Bool → List Up → St → Prop) (cutp : Prop) : Option Dr → Prop
  | some r => drG ops g d st next r
  | none => cutp
def execD (ts : Tis) (G : Cons) (ops : List Oper) (K : St → Prop) (Z : Value → St → Prop) : List Oper → (i b : Nat) → List Fp → St → Prop
  | [], _, b, fps, st => okSeg ops b fps ∧ K st
  | o :: rest, i, b, fps, st => match o.guard with
    | none => pieceN o.dst st (fun all ups st' => execD ts G ops K Z rest (i + 1) b (fps ++ [fpU o.op (fpO ⟨ts, ops, none, st, st.h.length⟩ o.op) all ups]) st')
        (okSeg ops b fps ∧ isCut ops i = true ∧ stepN G o.dst st (fun st' => execD ts G ops K Z rest (i + 1) (i + 1) [] st') Z (opS ⟨ts, ops, none, st, st.h.length⟩ o.op))
        (drOf G st.h st.h.length (opS ⟨ts, ops, none, st, st.h.length⟩ o.op))
    | some g => pieceG ops g o.dst st (fun all ups st' => execD ts G ops K Z rest (i + 1) b (fps ++ [fpU o.op (fpO ⟨ts, ops, some g, st, st.h.length⟩ o.op) all ups]) st')
        (okSeg ops b fps ∧ isCut ops i = true ∧ stepG G ops g o.dst st (fun st' => execD ts G ops K Z rest (i + 1) (i + 1) [] st') Z (opS ⟨ts, ops, some g, st, st.h.length⟩ o.op))
        (drOf G st.h st.h.length (opS ⟨ts, ops, some g, st, st.h.length⟩ o.op))
def fwdO (id : Nat) : Ob → SV
  | .fwd (some n) => .os n
  | _ => .os id
def fwdS (h : List Ob) : SV → SV
  | .os id => fwdO id (obAt h id)
  | s => s
def fwdT (h : List Ob) : List (Nat × SV) → List (Nat × SV)
  | [] => []
  | (d, s) :: r => (d, fwdS h s) :: fwdT h r
def isFwd : Ob → Bool
  | .fwd _ => true
  | _ => false
def anyFwd : List Ob → Bool
  | [] => false
  | o :: r => isFwd o || anyFwd r
def unfO : Ob → Ob
  | .fwd _ => .dead
  | o => o
def unfwd : List Ob → List Ob
  | [] => []
  | o :: r => unfO o :: unfwd r
def cleanF (st : St) : St := bif anyFwd st.h then ⟨fwdT st.h st.t, unfwd st.h⟩ else st
def clean (ops : List Oper) (st : St) : St := cleanF (bif ops.any (·.guard.isSome) then ⟨ungd st.t, st.h⟩ else st)
inductive Ex where
  | normal
  | exit (id : Nat)
  | ret
  | pan (x : Value)
def Ex.then (K : St → Prop) (Q : Ex → St → Prop) : Ex → St → Prop
  | .normal, st => K st
  | e, st => Q e st
def Ex.block (id : Nat) (Q : Ex → St → Prop) : Ex → St → Prop
  | .exit j, st => bif Nat.beq j id then Q .normal st else Q (.exit j) st
  | e, st => Q e st
def condS (x y : Prop) : SV → Prop
  | .v (.bool b) => (b = true → x) ∧ (b = false → y)
  | _ => False
structure LCon where
  α : Type
  pre : Prop
  post : α → Prop
  ex : α → Ex
  out : α → St
abbrev Loops := Nat → St → Option LCon
def loopS (Q : Ex → St → Prop) : Option LCon → Prop
  | some c => c.pre ∧ ∀ r, c.post r → Q (c.ex r) (c.out r)
  | none => False
def jkey : Operand → Nat
  | .tmp n => n + 1000000
  | _ => 0
def subJ (t : List (Nat × SV)) : List (Nat × SV) → Prop
  | [] => True
  | (n, s) :: r => lk n t = s ∧ subJ t r
def inJ (d : St) : Ex → St → Prop
  | .normal, st => st.h = d.h ∧ subJ st.t d.t
  | _, _ => False
def joinL (x y : (Ex → St → Prop) → Prop) (Q : Ex → St → Prop) (s : SV) (c : LCon) : Prop :=
  condS (x fun e st => ∃ r, c.post r ∧ inJ (c.out r) e st) (y fun e st => ∃ r, c.post r ∧ inJ (c.out r) e st) s ∧ ∀ r, c.post r → Q .normal (c.out r)
def joinS (x y : (Ex → St → Prop) → Prop) (Q : Ex → St → Prop) (s : SV) : Option LCon → Prop
  | none => condS (x Q) (y Q) s
  | some c => joinL x y Q s c
def cutQ (c : LCon) (Q : Ex → St → Prop) : Ex → St → Prop
  | .normal, st => ∃ r, c.post r ∧ inJ (c.out r) .normal st
  | e, st => Q e st
def inC (d : St) (Q : Ex → St → Prop) : Ex → St → Prop
  | .normal, st => inJ d .normal st
  | e, st => Q e st
def cutL (x : (Ex → St → Prop) → Prop) (Q : Ex → St → Prop) (c : LCon) : Prop := x (cutQ c Q) ∧ ∀ r, c.post r → Q .normal (c.out r)
def foldS (x : (Ex → St → Prop) → Prop) (Q : Ex → St → Prop) : Option LCon → Prop
  | none => x Q
  | some c => cutL x Q c
def execR (ts : Tis) (G : Cons) (ops : Array Oper) (d : Bool) (st : St) (Q : Ex → St → Prop) : Prop :=
  bif d then execD ts G ops.toList (fun st' => Q .normal (clean ops.toList st')) (fun x st' => Q (.pan x) st') ops.toList 0 0 [] st
      else execOps ts G ops.toList ops.toList st (fun st' => Q .normal (clean ops.toList st')) (fun x st' => Q (.pan x) st')
def exec (ts : Tis) (G : Cons) (L : Loops) : Code → St → (Ex → St → Prop) → Prop
  | .skip, st, Q => Q .normal st
  | .region id ops d, st, Q => foldS (execR ts G ops d st) Q (L (id + 2000000) st)
  | .seq a b, st, Q => exec ts G L a st (Ex.then (fun st' => exec ts G L b st' Q) Q)
  | .cond c x y, st, Q => joinS (exec ts G L x st) (exec ts G L y st) Q (raw st.t c) (L (jkey c) st)
  | .block id (.loop _), st, Q => loopS Q (L id st)
  | .block id (.rangeFunc ..), st, Q => loopS Q (L id st)
  | .block id c, st, Q => exec ts G L c st (Ex.block id Q)
  | .exit id, st, Q => Q (.exit id) st
  | .ret, st, Q => Q .ret st
  | .scope c, st, Q => exec ts G L c st Q
  | .label _, st, Q => Q .normal st
  | _, _, _ => False
def valR : OR → Option SV
  | .val s => some s
  | _ => none
def retV (ts : Tis) (st : St) : ResultVar → Option SV
  | .tmp n => some (lk n st.t)
  | .cell q t => valR (getTI ts t fun ti => loadS ti st.h (lk q st.t))
def consO : Option SV → Option (List SV) → Option (List SV)
  | some s, some l => some (s :: l)
  | _, _ => none
def retL (ts : Tis) (st : St) : List ResultVar → Option (List SV)
  | [] => some []
  | x :: r => consO (retV ts st x) (retL ts st r)
def tupO : Option (List SV) → Option SV
  | some [s] => some s
  | some l => some (.tup l)
  | none => none
def expO (h : List Ob) : Option SV → Option SV
  | some s => some (expS h 4 s)
  | none => none
def retS (rs : List ResultVar) (ts : Tis) (st : St) : Option SV := expO st.h (tupO (retL ts st rs))
def giveO : Ob → SV
  | .row k l => .nw k l
  | .mp k k2 l none => .nm k k2 l
  | .grid k l => .ng k l
  | _ => .any
def giveS (h : List Ob) : Nat → SV → SV
  | _, .os id => giveO (obAt h id)
  | n + 1, .agg l => .agg (l.map (giveS h n))
  | n + 1, .tup l => .tup (l.map (giveS h n))
  | _, .v x => .v x
  | _, .rs k l => .rs k l
  | _, .rm k k2 l => .rm k k2 l
  | _, .e0 => .e0
  | n, s => bif noPtr n s then s else .any
def gone : Nat → SV → List Nat
  | _, .os id => [id]
  | n + 1, .agg l => l.flatMap (gone n)
  | n + 1, .tup l => l.flatMap (gone n)
  | _, _ => []
def uniq : List Nat → Bool
  | [] => true
  | a :: r => !(memN a r) && uniq r
def giveB (h : List Ob) (s : SV) : Option SV := bif uniq (gone 3 s) && (gone 3 s).all (fun i => Nat.blt i h.length) then some (giveS h 3 s) else none
def giveR (h : List Ob) : Option SV → Option SV
  | some s => giveB h s
  | none => none
def retG (rs : List ResultVar) (ts : Tis) (st : St) : Option SV := giveR st.h (tupO (retL ts st rs))
def retM (m : Bool) (rs : List ResultVar) (ts : Tis) (st : St) : Option SV := bif m then retG rs ts st else retS rs ts st
def okGuard (ops : List Oper) (i : Nat) (o : Oper) : Bool :=
  match o.guard with
  | none => true
  | some (j, _) => Nat.blt j i && (match (nth ops j).bind (·.dst) with
    | some d => (List.range ops.length).all fun k => Nat.beq k j || (match (nth ops k).bind (·.dst) with | some e => !(Nat.beq d e) | none => true)
    | none => false)
def okOps (N : Nat) (ops : List Oper) : Bool :=
  (List.range ops.length).all fun i => match nth ops i with
    | some o => (match o.dst with | some d => Nat.blt d N | none => true) && okGuard ops i o
    | none => true
def waits (o : Oper) (k : Nat) : Bool := o.after.toList.any fun e => Nat.beq e.on k && Region.binds .any e
def okDraw (ops : Array Oper) : Bool :=
  (List.range ops.size).all fun i => match nth ops.toList i with
    | some o =>
      (o.after.toList.all fun e => !(Region.binds .any e) || Nat.blt e.on i) &&
      (List.range ops.size).all fun k => match nth ops.toList k with
        | some q => match q.dst with
          | some d => (Nat.beq k i || !(o.dst == some d)) && (!((o.looksAt ops).contains d) || Nat.beq k i || (Nat.blt k i && waits o k) || (Nat.blt i k && waits q i))
          | none => true
        | none => true
    | none => true
def okCode (N : Nat) : Code → Bool
  | .region _ ops d => okOps N ops.toList && (!d || okDraw ops)
  | .seq a b => okCode N a && okCode N b
  | .cond _ a b => okCode N a && okCode N b
  | .block _ c => okCode N c
  | .loop c => okCode N c
  | .scope c => okCode N c
  | .rangeFunc _ _ a b => okCode N a && okCode N b
  | _ => true
def idsLt : Nat → Nat → SV → Bool
  | _, _, .v _ => true
  | _, _, .rs _ _ => true
  | _, _, .rm _ _ _ => true
  | _, _, .any => true
  | _, _, .e0 => true
  | _, n, .ptr id _ => Nat.blt id n
  | _, n, .os id => Nat.blt id n
  | _, n, .rp _ id _ _ => Nat.blt id n
  | _, n, .gr id _ => Nat.blt id n
  | _, n, .gp _ id _ _ _ => Nat.blt id n
  | _, n, .vw _ id _ _ => Nat.blt id n
  | f + 1, n, .ep l _ => l.all (idsLt f n)
  | f + 1, n, .ls l => l.all (idsLt f n)
  | f + 1, n, .agg l => l.all (idsLt f n)
  | f + 1, n, .tup l => l.all (idsLt f n)
  | f + 1, n, .fn _ l m => l.all (idsLt f n) && m.all (idsLt f n)
  | _, _, _ => false
def subT (m : Nat → Option Nat) (n : Nat) (t : List (Nat × SV)) : List (Nat × SV) → Prop
  | [] => True
  | (i, s) :: r => (lk i t = ren m 5 s ∧ idsLt 5 n s = true) ∧ subT m n t r
def isDead : Ob → Bool
  | .dead => true
  | _ => false
def obIds (n : Nat) : Ob → Bool
  | .cells l => l.all (idsLt 3 n)
  | .mi (some i) _ _ _ => Nat.blt i n
  | .fwd (some i) => Nat.blt i n
  | _ => true
def subO (m : Nat → Option Nat) (n : Nat) (h : List Ob) (j : Nat) (o : Ob) : Prop := bif isDead o then True else obAt h j = renO m o ∧ obIds n o = true
def subH (m : Nat → Option Nat) (n : Nat) (h : List Ob) : List Nat → List Ob → Prop
  | [], [] => True
  | j :: js, o :: r => subO m n h j o ∧ subH m n h js r
  | _, _ => False
def liveIds : List Nat → List Ob → List Nat
  | j :: js, o :: r => bif isDead o then liveIds js r else j :: liveIds js r
  | _, _ => []
def keepsN : Nat → List Nat → Nat → Bool
  | _, [], _ => true
  | i, j :: js, n => (Nat.beq i j || Nat.ble n i) && keepsN (i + 1) js n
def mapN (js : List Nat) (i : Nat) : Option Nat := nth js i
def Sub (js : List Nat) (n0 : Nat) (st st2 : St) : Prop :=
  (uniq (liveIds js st2.h) = true ∧ keepsN 0 js n0 = true ∧ js.all (fun j => Nat.blt j st.h.length) = true) ∧ subT (mapN js) st2.h.length st.t st2.t ∧ subH (mapN js) st2.h.length st.h js st2.h
def roundQ {σ : Type} (D : σ → St) (I : σ → Prop) (m : σ → Nat) (n0 : Nat) (x : σ) (id : Nat) (Q : Ex → St → Prop) : Ex → St → Prop
  | .normal, st => ∃ y js, I y ∧ m y < m x ∧ n0 ≤ (D y).h.length ∧ Sub js n0 st (D y)
  | .exit j, st => bif Nat.beq j id then Q .normal st else Q (.exit j) st
  | .ret, st => Q .ret st
  | .pan x, st => Q (.pan x) st
def initT : Nat → List SV → List (Nat × SV)
  | _, [] => []
  | n, s :: r => (n, s) :: initT (n + 1) r
def donePost (post : SV → Prop) : Option SV → Prop
  | some s => post s
  | none => False
def doneQ (m : Bool) (rs : List ResultVar) (ts : Tis) (post : SV → Prop) (pp : Value → Prop) : Ex → St → Prop
  | .exit _, _ => False
  | .normal, st => donePost post (retM m rs ts st)
  | .ret, st => donePost post (retM m rs ts st)
  | .pan x, _ => pp x
def doneR (n0 : Nat) (C : HCon) : Option SV → List Ob → Prop
  | some s, h => ∃ r s' h' js, C.post r ∧ C.res r = .ret s' h' ∧ n0 ≤ h'.length ∧ Sub js n0 ⟨[(0, s)], h⟩ ⟨[(0, s')], h'⟩
  | none, _ => False
def doneH (n0 : Nat) (rs : List ResultVar) (ts : Tis) (C : HCon) : Ex → St → Prop
  | .exit _, _ => False
  | .normal, st => doneR n0 C (tupO (retL ts st rs)) st.h
  | .ret, st => doneR n0 C (tupO (retL ts st rs)) st.h
  | .pan x, st => ∃ r h' js, C.post r ∧ C.res r = .pan x h' ∧ n0 ≤ h'.length ∧ Sub js n0 ⟨[], st.h⟩ ⟨[], h'⟩
end Go.Sx
end
section
namespace Go.Sx
open Go.RowKit
structure Hd where
  p : Option Nat := none
  v : Value := undef
  vs : List Value := []
  bs : List Nat := []
abbrev Own := Nat → Option Hd
def ownB (F : Nat → Prop) (own : Own) (b : Nat) : Prop := F b ∨ ∃ id hd, own id = some hd ∧ b ∈ hd.bs
def own0 : Own := fun _ => none
def Hd.like (a b : Hd) : Prop := b.p = a.p ∧ b.v = a.v ∧ b.vs = a.vs
theorem Hd.like.refl (a : Hd) : a.like a := ⟨rfl, rfl, rfl⟩
theorem Hd.like.trans {a b c : Hd} (h : a.like b) (h' : b.like c) : a.like c := ⟨h'.1.trans h.1, h'.2.1.trans h.2.1, h'.2.2.trans h.2.2⟩
def one1 : Value → Bool
  | .agg _ => false
  | .tuple _ => false
  | _ => true
theorem one1_cells {v : Value} (h : one1 v = true) : v.cells = #[v] := by cases v <;> first | rfl | simp [one1] at h
theorem one1_oneCell {v : Value} (h : one1 v = true) : v.oneCell' = true := by cases v <;> first | rfl | simp [one1] at h
def VwOk (x : Value) (sz : Nat) (lo hi : Int) (a : Option Addr) : Prop := hi.toNat ≤ lo.toNat ∨ ∃ b o n cap, x = .slice (some ⟨b, o, none⟩) n cap ∧ hi.toNat ≤ n ∧ a = some ⟨b, o + lo.toNat * sz, none⟩
inductive Rel (F : Nat → Prop) (own : Own) (w : World) : SV → Value → Prop where
  | any (v : Value) : Rel F own w .any v
  | v (x : Value) : Rel F own w (.v x) x
  | ptr {id off b : Nat} {hd : Hd} : own id = some hd → hd.p = some b → Rel F own w (.ptr id off) (.pointer (some ⟨b, off, none⟩))
  | os {id : Nat} {hd : Hd} : own id = some hd → one1 hd.v = true → Rel F own w (.os id) hd.v
  | e0 {a : Option Addr} : Rel F own w .e0 (.slice a 0 0)
  | rp {sz id off n cap b o : Nat} {i : Int} {hd : Hd} : own id = some hd → hd.v = .slice (some ⟨b, o, none⟩) n cap → i.toNat < n → Rel F own w (.rp sz id i off) (.pointer (some ⟨b, o + i.toNat * sz + off, none⟩))
  | gr {id : Nat} {i : Int} {v : Value} {hd : Hd} : own id = some hd → hd.vs[i.toNat]? = some v → one1 v = true → Rel F own w (.gr id i) v
  | gp {sz id off n cap b o : Nat} {i j : Int} {hd : Hd} : own id = some hd → hd.vs[i.toNat]? = some (.slice (some ⟨b, o, none⟩) n cap) → j.toNat < n → Rel F own w (.gp sz id i j off) (.pointer (some ⟨b, o + j.toNat * sz + off, none⟩))
  | vw {sz id cap : Nat} {lo hi : Int} {hd : Hd} {a : Option Addr} : own id = some hd → VwOk hd.v sz lo hi a → Rel F own w (.vw sz id lo hi) (.slice a (hi.toNat - lo.toNat) cap)
  | ep {cells : List SV} {off b o : Nat} (c : Nat → Value) :
      (∀ j s, cells[j]? = some s → ¬ ownB F own b ∧ w.cell? ⟨b, o + j, none⟩ = some (c j)) → (∀ j s, cells[j]? = some s → Rel F own w s (c j)) →
      Rel F own w (.ep cells off) (.pointer (some ⟨b, o + off, none⟩))
  | rs {k : Tag} {l : List k.T} {b o cap : Nat} (c : Nat → Nat → Value) : l.length ≤ cap → l.length ≤ maxL →
      (∀ (i : Nat) (x : k.T), l[i]? = some x → ∀ (j : Nat) (s : SV), (cellsOf k x)[j]? = some s → ¬ ownB F own b ∧ w.cell? ⟨b, o + i * sizeOfTag k + j, none⟩ = some (c i j)) →
      (∀ (i : Nat) (x : k.T), l[i]? = some x → ∀ (j : Nat) (s : SV), (cellsOf k x)[j]? = some s → Rel F own w s (c i j)) →
      Rel F own w (.rs k l) (.slice (some ⟨b, o, none⟩) l.length cap)
  | rs0 {k : Tag} {a : Option Addr} {cap : Nat} : Rel F own w (.rs k []) (.slice a 0 cap)
  | ls {l : List SV} {b o cap : Nat} (c : Nat → Value) : l.length ≤ cap →
      (∀ j s, l[j]? = some s → ¬ ownB F own b ∧ w.cell? ⟨b, o + j, none⟩ = some (c j)) → (∀ j s, l[j]? = some s → Rel F own w s (c j)) →
      Rel F own w (.ls l) (.slice (some ⟨b, o, none⟩) l.length cap)
  | rm {kk vk : Tag} {l : List (kk.T × vk.T)} {b : Nat} (ck cv : Nat → Value) (es : Array MapEntry) (clock : Nat) : ¬ ownB F own b → w.heap[b]? = some (.map es clock) → es.size = l.length →
      (∀ (i : Nat) (x : kk.T × vk.T), l[i]? = some x → ∃ n, es[i]? = some ⟨ck i, cv i, n⟩) →
      (∀ (i : Nat) (x : kk.T × vk.T), l[i]? = some x → Rel F own w (svT kk x.1) (ck i)) → (∀ (i : Nat) (x : kk.T × vk.T), l[i]? = some x → Rel F own w (svT vk x.2) (cv i)) →
      Rel F own w (.rm kk vk l) (.map (some b))
  | rm0 {kk vk : Tag} : Rel F own w (.rm kk vk []) (.map none)
  | agg {l : List SV} {vs : Array Value} : vs.size = l.length → (∀ (j : Nat) (s : SV), l[j]? = some s → Rel F own w s (vs.getD j undef)) → Rel F own w (.agg l) (.agg vs)
  | tup {l : List SV} {vs : Array Value} : vs.size = l.length → (∀ (j : Nat) (s : SV), l[j]? = some s → Rel F own w s (vs.getD j undef)) → Rel F own w (.tup l) (.tuple vs)
  | fn {f : FuncId} {first caps : List SV} {us vs : Array Value} : us.size = first.length → vs.size = caps.length → (∀ (j : Nat) (s : SV), first[j]? = some s → Rel F own w s (us.getD j undef)) →
      (∀ (j : Nat) (s : SV), caps[j]? = some s → Rel F own w s (vs.getD j undef)) → Rel F own w (.fn f first caps) (.func (.func f) us vs)
structure Goes (F : Nat → Prop) (own : Own) (w : World) (own' : Own) (w' : World) : Prop where
  ids : ∀ (id : Nat) (hd : Hd), own id = some hd → ∃ hd', own' id = some hd' ∧ hd.like hd'
  keep : ∀ b, b < w.heap.size → ¬ ownB F own b → ¬ ownB F own' b ∧ w'.heap[b]? = w.heap[b]?
  size : w.heap.size ≤ w'.heap.size
structure Bs where
  w : World
  own : Own := own0
  ds : List Deferred := []
def Old (B : Bs) (b : Nat) : Prop := b < B.w.heap.size ∧ ¬ ∃ id hd, B.own id = some hd ∧ b ∈ hd.bs
structure Fr (B : Bs) (own : Own) (w : World) : Prop where
  ids : ∀ (id : Nat) (hd : Hd), B.own id = some hd → ∃ hd', own id = some hd' ∧ hd.like hd'
  base : ∀ (id : Nat) (hd : Hd) (b : Nat), own id = some hd → b ∈ hd.bs → ¬ Old B b
  os : w.os = B.w.os
  tape : w.tape = B.w.tape
  output : w.output = B.w.output
  size : B.w.heap.size ≤ w.heap.size
  block : ∀ k, Old B k → w.heap[k]? = B.w.heap[k]?
theorem Fr.refl (B : Bs) : Fr B B.own B.w := ⟨fun _ hd h => ⟨hd, h, .refl _⟩, fun id hd _ h hb ho => ho.2 ⟨id, hd, h, hb⟩, rfl, rfl, rfl, Nat.le_refl _, fun _ _ => rfl⟩
theorem Fr.below {B : Bs} {own : Own} {w w' : World} (h : Fr B own w) (hb : Below w.heap.size w w') : Fr B own w' :=
  ⟨h.ids, h.base, hb.os.trans h.os, hb.tape.trans h.tape, hb.output.trans h.output, Nat.le_trans h.size hb.size, fun k hk => (hb.block k (Nat.lt_of_lt_of_le hk.1 h.size)).trans (h.block k hk)⟩
theorem Fr.drew {B : Bs} {own : Own} {w : World} (h : Fr B own w) : Fr B own { w with drawn := w.drawn + 1 } := ⟨h.ids, h.base, h.os, h.tape, h.output, h.size, h.block⟩
theorem Fr.trans {B : Bs} {own own' : Own} {w w' : World} (h : Fr B own w) (h' : Fr { w := w, own := own } own' w') : Fr B own' w' := by
  have hold : ∀ k, Old B k → Old { w := w, own := own } k := fun k hk => ⟨Nat.lt_of_lt_of_le hk.1 h.size, fun ⟨id, hd, hm, hb⟩ => h.base id hd k hm hb hk⟩
  refine ⟨fun id hd hi => ?_, fun id hd b hi hb ho => h'.base id hd b hi hb (hold b ho), h'.os.trans h.os, h'.tape.trans h.tape, h'.output.trans h.output, Nat.le_trans h.size h'.size,
    fun k hk => (h'.block k (hold k hk)).trans (h.block k hk)⟩
  obtain ⟨hd1, e1, l1⟩ := h.ids id hd hi
  obtain ⟨hd2, e2, l2⟩ := h'.ids id hd1 e1
  exact ⟨hd2, e2, l1.trans l2⟩
theorem Fr.goes {F : Nat → Prop} {own own' : Own} {w w' : World} (h : Fr { w := w, own := own } own' w') : Goes F own w own' w' :=
  ⟨h.ids, fun b hb hn => by
    have ho : Old { w := w, own := own } b := ⟨hb, fun ⟨id, hd, hm, he⟩ => hn (.inr ⟨id, hd, hm, he⟩)⟩
    refine ⟨?_, h.block b ho⟩
    rintro (hf | ⟨id, hd, hm, he⟩)
    · exact hn (.inl hf)
    · exact h.base id hd b hm he ho, h.size⟩
theorem Fr.of_step {own own' : Own} {w w' : World} (ids : ∀ (id : Nat) (hd : Hd), own id = some hd → ∃ hd', own' id = some hd' ∧ hd.like hd')
    (bs : ∀ id hd b, own' id = some hd → b ∈ hd.bs → (∃ id' hd', own id' = some hd' ∧ b ∈ hd'.bs) ∨ w.heap.size ≤ b)
    (block : ∀ b, b < w.heap.size → (¬ ∃ id hd, own id = some hd ∧ b ∈ hd.bs) → w'.heap[b]? = w.heap[b]?) (size : w.heap.size ≤ w'.heap.size)
    (os : w'.os = w.os) (tape : w'.tape = w.tape) (output : w'.output = w.output) : Fr { w := w, own := own } own' w' :=
  ⟨ids, fun id hd b h1 h2 ho => by
    rcases bs id hd b h1 h2 with h | h
    · exact ho.2 h
    · have := ho.1; simp at this; omega, os, tape, output, size, fun k hk => block k hk.1 hk.2⟩
theorem cell_lt {w : World} {b o : Nat} {v : Value} (h : w.cell? ⟨b, o, none⟩ = some v) : b < w.heap.size := World.block_lt_of_cell? w _ h
theorem cell_same {w w' : World} {b : Nat} (h : w'.heap[b]? = w.heap[b]?) (o : Nat) : w'.cell? ⟨b, o, none⟩ = w.cell? ⟨b, o, none⟩ := by
  simp only [World.cell?, h]
theorem heap_lt {w : World} {b : Nat} {o : Obj} (h : w.heap[b]? = some o) : b < w.heap.size := by
  rcases Nat.lt_or_ge b w.heap.size with h' | h'
  · exact h'
  · simp [Array.getElem?_eq_none h'] at h
structure Carries (F : Nat → Prop) (own : Own) (w : World) (F' : Nat → Prop) (own' : Own) (w' : World) : Prop where
  ids : ∀ (id : Nat) (hd : Hd), own id = some hd → ∃ hd', own' id = some hd' ∧ hd.like hd'
  keep : ∀ b, b < w.heap.size → ¬ ownB F own b → ¬ ownB F' own' b ∧ w'.heap[b]? = w.heap[b]?
theorem Goes.carries {F : Nat → Prop} {own own' : Own} {w w' : World} (g : Goes F own w own' w') : Carries F own w F own' w' := ⟨g.ids, g.keep⟩
theorem Rel.carry {F F' : Nat → Prop} {own own' : Own} {w w' : World} (g : Carries F own w F' own' w') {s : SV} {v : Value} (h : Rel F own w s v) : Rel F' own' w' s v := by
  induction h with
  | any v => exact .any v
  | v x => exact .v x
  | ptr h1 h2 => obtain ⟨hd', e, l⟩ := g.ids _ _ h1; exact .ptr e (l.1.trans h2)
  | os h1 h2 => obtain ⟨hd', e, l⟩ := g.ids _ _ h1; rw [← l.2.1] at h2 ⊢; exact .os e h2
  | e0 => exact .e0
  | rp h1 h2 h3 => obtain ⟨hd', e, l⟩ := g.ids _ _ h1; exact .rp e (l.2.1.trans h2) h3
  | gr h1 h2 h3 => obtain ⟨hd', e, l⟩ := g.ids _ _ h1; exact .gr e (by rw [l.2.2]; exact h2) h3
  | gp h1 h2 h3 => obtain ⟨hd', e, l⟩ := g.ids _ _ h1; exact .gp e (by rw [l.2.2]; exact h2) h3
  | vw h1 h2 => obtain ⟨hd', e, l⟩ := g.ids _ _ h1; exact .vw e (by rw [l.2.1]; exact h2)
  | ep c h1 _ ih =>
    refine .ep c (fun j s hj => ?_) ih
    obtain ⟨hn, hc⟩ := h1 j s hj
    obtain ⟨hn', hk⟩ := g.keep _ (cell_lt hc) hn
    exact ⟨hn', by rw [cell_same hk]; exact hc⟩
  | rs c h0 h0' h1 _ ih =>
    refine .rs c h0 h0' (fun i x hi j s hj => ?_) ih
    obtain ⟨hn, hc⟩ := h1 i x hi j s hj
    obtain ⟨hn', hk⟩ := g.keep _ (cell_lt hc) hn
    exact ⟨hn', by rw [cell_same hk]; exact hc⟩
  | rs0 => exact .rs0
  | ls c h0 h1 _ ih =>
    refine .ls c h0 (fun j s hj => ?_) ih
    obtain ⟨hn, hc⟩ := h1 j s hj
    obtain ⟨hn', hk⟩ := g.keep _ (cell_lt hc) hn
    exact ⟨hn', by rw [cell_same hk]; exact hc⟩
  | rm ck cv es clock h0 h1 h2 h3 _ _ ih1 ih2 =>
    obtain ⟨hn', hk⟩ := g.keep _ (heap_lt h1) h0
    exact .rm ck cv es clock hn' (by rw [hk]; exact h1) h2 h3 ih1 ih2
  | rm0 => exact .rm0
  | agg h0 _ ih => exact .agg h0 ih
  | tup h0 _ ih => exact .tup h0 ih
  | fn h0 h0' _ _ ih1 ih2 => exact .fn h0 h0' ih1 ih2
theorem Rel.mono {F : Nat → Prop} {own own' : Own} {w w' : World} (g : Goes F own w own' w') {s : SV} {v : Value} (h : Rel F own w s v) : Rel F own' w' s v := h.carry g.carries
theorem Goes.refl (F : Nat → Prop) (own : Own) (w : World) : Goes F own w own w := ⟨fun _ hd h => ⟨hd, h, .refl _⟩, fun _ _ h => ⟨h, rfl⟩, Nat.le_refl _⟩
theorem alloc_lt (w : World) (o : Obj) (b : Nat) (h : b < w.heap.size) : (w.alloc o).heap[b]? = w.heap[b]? := Below.heap_alloc w o b h
theorem alloc_at (w : World) (o : Obj) : (w.alloc o).heap[w.heap.size]? = some o := by show (w.heap.push o)[w.heap.size]? = _; simp
theorem alloc_size (w : World) (o : Obj) : (w.alloc o).heap.size = w.heap.size + 1 := by show (w.heap.push o).size = _; simp
theorem Goes.below (F : Nat → Prop) (own : Own) {w w' : World} (h : Below w.heap.size w w') : Goes F own w own w' :=
  ⟨fun _ hd h => ⟨hd, h, .refl _⟩, fun b hb hn => ⟨hn, h.block b hb⟩, h.size⟩
theorem below_alloc (w : World) (o : Obj) : Below w.heap.size w (w.alloc o) := (Below.refl _ _).alloc (Nat.le_refl _) o
theorem nth_eq {α : Type} : ∀ (l : List α) (i : Nat), nth l i = l[i]?
  | [], i => by simp [nth]
  | x :: r, 0 => by simp [nth]
  | x :: r, i + 1 => by simp [nth, nth_eq r i]
theorem sz_eq : ∀ l : List SV, sz l = l.length
  | [] => rfl
  | x :: r => by simp [sz, sz_eq r]
theorem cut_eq : ∀ (n : Nat) (l : List SV), cut n l = l.take n
  | 0, l => by simp [cut]
  | n + 1, [] => by simp [cut]
  | n + 1, x :: r => by simp [cut, cut_eq n r]
theorem past_eq : ∀ (n : Nat) (l : List SV), past n l = l.drop n
  | 0, l => by simp [past]
  | n + 1, [] => by simp [past]
  | n + 1, x :: r => by simp [past, past_eq n r]
theorem setAt_eq : ∀ (l : List SV) (i : Nat) (s : SV), setAt l i s = l.set i s
  | [], i, s => by simp [setAt]
  | x :: r, 0, s => by simp [setAt]
  | x :: r, i + 1, s => by simp [setAt, setAt_eq r i s]
theorem setCells_length : ∀ (vs cells : List SV) (off : Nat), (setCells cells off vs).length = cells.length
  | [], cells, off => rfl
  | x :: xs, cells, off => by simp [setCells, setCells_length xs, setAt_eq]
theorem setCells_get : ∀ (vs cells : List SV) (off : Nat), off + vs.length ≤ cells.length → ∀ j, (setCells cells off vs)[j]? = if off ≤ j ∧ j < off + vs.length then vs[j - off]? else cells[j]?
  | [], cells, off, _, j => by simp only [setCells, List.length_nil]; rw [if_neg (by omega)]
  | x :: xs, cells, off, h, j => by
    simp only [List.length_cons] at h
    rw [setCells, setCells_get xs _ _ (by simp [setAt_eq]; omega), setAt_eq]
    by_cases hj : off + 1 ≤ j ∧ j < off + 1 + xs.length
    · rw [if_pos hj, if_pos (by simp; omega), show j - off = (j - (off + 1)) + 1 by omega, List.getElem?_cons_succ]
    · rw [if_neg hj, List.getElem?_set]
      by_cases hjo : off = j
      · subst hjo; rw [if_pos rfl, if_pos (by omega), if_pos (by simp)]; simp
      · rw [if_neg hjo, if_neg (by simp; omega)]
theorem obAt_eq : ∀ (h : List Ob) (id : Nat), obAt h id = (h[id]?).getD .dead
  | [], id => by simp [obAt]
  | o :: r, 0 => by simp [obAt]
  | o :: r, n + 1 => by simp [obAt, obAt_eq r n]
theorem obAt_set : ∀ (h : List Ob) (id : Nat) (x : Ob) (j : Nat), obAt (obSet h id x) j = if id = j then x else obAt h j
  | [], 0, x, j => by cases j <;> simp [obSet, obAt]
  | [], n + 1, x, j => by
    cases j with
    | zero => simp [obSet, obAt]
    | succ j => simp only [obSet, obAt, obAt_set [] n x j]; by_cases h : n = j <;> simp [h]
  | o :: r, 0, x, j => by cases j <;> simp [obSet, obAt]
  | o :: r, n + 1, x, j => by
    cases j with
    | zero => simp [obSet, obAt]
    | succ j => simp only [obSet, obAt, obAt_set r n x j]; by_cases h : n = j <;> simp [h]
theorem obSet_length : ∀ (h : List Ob) (id : Nat) (x : Ob), (obSet h id x).length = if id < h.length then h.length else id + 1
  | [], 0, x => by simp [obSet]
  | [], n + 1, x => by simp [obSet, obSet_length [] n x]
  | o :: r, 0, x => by simp [obSet]
  | o :: r, n + 1, x => by simp only [obSet, List.length_cons, obSet_length r n x]; by_cases h : n < r.length <;> simp [h] <;> omega
theorem obAt_out {h : List Ob} {id : Nat} (hi : h.length ≤ id) : obAt h id = .dead := by rw [obAt_eq, List.getElem?_eq_none hi]; rfl
theorem obAt_app (h l : List Ob) (id : Nat) : obAt (h ++ l) id = if id < h.length then obAt h id else obAt l (id - h.length) := by
  rw [obAt_eq, obAt_eq, obAt_eq, List.getElem?_append]
  split <;> rfl
theorem flat_rel {F : Nat → Prop} {own : Own} {w : World} {s : SV} {v : Value} {l : List SV} (h : Rel F own w s v) (hf : flat s = some l) :
    v.cells.size = l.length ∧ ∀ (j : Nat) (x : SV), l[j]? = some x → Rel F own w x (v.cells.getD j undef) := by
  have one : ∀ {s : SV} {v : Value}, Rel F own w s v → v.cells = #[v] → flat s = some [s] → flat s = some l → v.cells.size = l.length ∧ ∀ (j : Nat) (x : SV), l[j]? = some x → Rel F own w x (v.cells.getD j undef) := by
    intro s v h hc h1 h2
    rw [h1] at h2
    simp only [Option.some.injEq] at h2
    subst h2
    rw [hc]
    refine ⟨rfl, fun j x hj => ?_⟩
    cases j with
    | zero => simp at hj; subst hj; simpa using h
    | succ j => simp at hj
  cases h with
  | any => simp [flat] at hf
  | v =>
    cases v <;> first | exact one (.v _) rfl rfl hf | simp [flat] at hf
    subst hf
    rename_i cs
    refine ⟨by simp [Value.cells], fun j y hj => ?_⟩
    simp at hj
    obtain ⟨z, hz, rfl⟩ := hj
    simp [Value.cells, hz]
    exact .v _
  | ptr h1 h2 => exact one (.ptr h1 h2) rfl rfl hf
  | os h1 h2 => exact one (.os h1 h2) (one1_cells h2) rfl hf
  | e0 => exact one .e0 rfl rfl hf
  | rp h1 h2 h3 => exact one (.rp h1 h2 h3) rfl rfl hf
  | gr h1 h2 h3 => exact one (.gr h1 h2 h3) (one1_cells h3) rfl hf
  | gp h1 h2 h3 => exact one (.gp h1 h2 h3) rfl rfl hf
  | vw h1 h2 => exact one (.vw h1 h2) rfl rfl hf
  | ep c h1 h2 => exact one (.ep c h1 h2) rfl rfl hf
  | rs c h0 h0' h1 h2 => exact one (.rs c h0 h0' h1 h2) rfl rfl hf
  | rs0 => exact one .rs0 rfl rfl hf
  | ls c h0 h1 h2 => exact one (.ls c h0 h1 h2) rfl rfl hf
  | rm ck cv es clock h0 h1 h2 h3 h4 h5 => exact one (.rm ck cv es clock h0 h1 h2 h3 h4 h5) rfl rfl hf
  | rm0 => exact one .rm0 rfl rfl hf
  | agg h0 h1 => simp [flat] at hf; subst hf; exact ⟨h0, h1⟩
  | tup => simp [flat] at hf
  | fn h0 h0' h1 h2 => exact one (.fn h0 h0' h1 h2) rfl rfl hf
end Go.Sx
end
section
namespace Go.Sx
open Go.RowKit
theorem cellsOf_mem {k : Tag} {x : k.T} {j : Nat} {s : SV} (h : (cellsOf k x)[j]? = some s) : (∃ y, s = .v y ∧ one1 y = true) ∨ (∃ (k' : Tag) (l : List k'.T), s = .rs k' l ∧ rank k' < rank k) ∨ ∃ (k' k2 : Tag) (l : List (k'.T × k2.T)), s = .rm k' k2 l ∧ rank k' < rank k ∧ rank k2 < rank k := by
  have hm := List.mem_of_getElem? h
  cases k <;> simp only [cellsOf, List.mem_cons, List.not_mem_nil, or_false] at hm <;>
    (repeat' (rcases hm with hm | hm)) <;> first | exact .inl ⟨_, rfl, rfl⟩ | exact .inr (.inl ⟨_, _, rfl, by decide⟩) | exact .inr (.inr ⟨_, _, _, rfl, by decide, by decide⟩)
section
variable {P : Program} {F : Nat → Prop} {own : Own} {w : World}
theorem rel_v {x v : Value} (h : Rel F own w (.v x) v) : v = x := by cases h; rfl
theorem rel_one {k : Tag} {x : k.T} {j : Nat} {s : SV} {u : Value} (h : (cellsOf k x)[j]? = some s) (hr : Rel F own w s u) : one1 u = true := by
  rcases cellsOf_mem h with ⟨y, rfl, hy⟩ | ⟨k', l, rfl, _⟩ | ⟨k', k2, l, rfl, _⟩
  · rw [rel_v hr]; exact hy
  · cases hr <;> rfl
  · cases hr <;> rfl
def RowAt (F : Nat → Prop) (own : Own) (w : World) (k : Tag) (l : List k.T) (o : Nat) (cs : Array Value) : Prop :=
  ∀ (i : Nat) (x : k.T), l[i]? = some x → ∀ (j : Nat) (s : SV), (cellsOf k x)[j]? = some s → ∃ u, cs[o + i * sizeOfTag k + j]? = some u ∧ Rel F own w s u
def RowRel (F : Nat → Prop) (own : Own) (w : World) (k : Tag) (l : List k.T) (v : Value) (bs : List Nat) : Prop :=
  (∃ a, v = .slice a 0 0 ∧ l = [] ∧ bs = []) ∨
  ∃ b o cap cs ty, v = .slice (some ⟨b, o, none⟩) l.length cap ∧ bs = [b] ∧ w.heap[b]? = some (.cells cs ty (0, 0)) ∧ o + cap * sizeOfTag k ≤ cs.size ∧ l.length ≤ cap ∧ l.length ≤ maxL ∧ RowAt F own w k l o cs
def MpAt (F : Nat → Prop) (own : Own) (w : World) (kk vk : Tag) (l : List (kk.T × vk.T)) (es : Array MapEntry) : Prop :=
  es.size = l.length ∧ ∀ (i : Nat) (x : kk.T × vk.T), l[i]? = some x → ∃ e, es[i]? = some e ∧ e.born = i ∧ Rel F own w (svT kk x.1) e.key ∧ Rel F own w (svT vk x.2) e.val
def withPend (kk vk : Tag) (l : List (kk.T × vk.T)) : Option kk.T → List (kk.T × vk.T)
  | some x => if (mget l x).isSome then l else l ++ [(x, dflt vk)]
  | none => l
def GridIn (F : Nat → Prop) (own : Own) (w : World) (k : Tag) : List (List k.T) → List Value → List Nat → Prop
  | [], [], bs => bs = []
  | l :: ls, v :: vs, bs => ∃ b1 b2, bs = b1 ++ b2 ∧ one1 v = true ∧ RowRel F own w k l v b1 ∧ GridIn F own w k ls vs b2
  | _, _, _ => False
def ObRel (F : Nat → Prop) (own : Own) (w : World) (hd : Hd) : Ob → Prop
  | .cells l => ∃ b cs ty, hd.p = some b ∧ hd.bs = [b] ∧ w.heap[b]? = some (.cells cs ty (0, 0)) ∧ cs.size = l.length ∧ ∀ (j : Nat) (s : SV), l[j]? = some s → Rel F own w s (cs.getD j undef)
  | .dead => True
  | .row k l => RowRel F own w k l hd.v hd.bs
  | .mp kk vk l pend => ∃ b es, hd.v = .map (some b) ∧ hd.bs = [b] ∧ w.heap[b]? = some (.map es es.size) ∧ MpAt F own w kk vk (withPend kk vk l pend) es
  | .grid k l => (hd.v = .slice none 0 0 ∧ l = [] ∧ hd.vs = [] ∧ hd.bs = []) ∨
      ∃ b o cap cs ty bs, hd.v = .slice (some ⟨b, o, none⟩) l.length cap ∧ hd.bs = b :: bs ∧ hd.bs.Nodup ∧ w.heap[b]? = some (.cells cs ty (0, 0)) ∧ o + cap ≤ cs.size ∧ l.length ≤ cap ∧ l.length ≤ maxL ∧
        (∀ (i : Nat) (v : Value), hd.vs[i]? = some v → cs[o + i]? = some v) ∧ GridIn F own w k l hd.vs bs
  | .ab r => hd.v = r.yv ∧ r.R (fun b => ownB F own b ∧ b ∉ hd.bs) hd.bs w
  | .raw o => ∃ b, hd.p = some b ∧ hd.bs = [b] ∧ w.heap[b]? = some o
  | .mi mid n left cur => ∃ b, hd.p = some b ∧ hd.bs = [b] ∧ ∀ i, mid = some i → ∃ hdm bm seen c0, own i = some hdm ∧ hdm.v = .map (some bm) ∧ w.heap[b]? = some (.mapIter (some bm) n seen c0) ∧ n ≤ c0 ∧ left.Nodup ∧ (∀ k, k ∈ left ↔ k < n ∧ ¬ k ∈ seen.toList) ∧ ∀ j, cur = some j → seen.back? = some j ∧ c0 = n
  | .fwd n => ∀ i, n = some i → ∃ hd2, own i = some hd2 ∧ hd2.v = hd.v ∧ one1 hd.v = true
variable {F' : Nat → Prop} {own' : Own} {w' : World}
theorem RowAt.carry (g : Carries F own w F' own' w') {k : Tag} {l : List k.T} {o : Nat} {cs : Array Value} (h : RowAt F own w k l o cs) : RowAt F' own' w' k l o cs :=
  fun i x hi j s hj => by obtain ⟨u, h1, h2⟩ := h i x hi j s hj; exact ⟨u, h1, h2.carry g⟩
theorem RowRel.carry (g : Carries F own w F' own' w') {k : Tag} {l : List k.T} {v : Value} {bs : List Nat} (hb : ∀ b ∈ bs, w'.heap[b]? = w.heap[b]?) (h : RowRel F own w k l v bs) : RowRel F' own' w' k l v bs := by
  rcases h with h | ⟨b, o, cap, cs, ty, h1, h2, h3, h4, h5, h6, h7⟩
  · exact .inl h
  · exact .inr ⟨b, o, cap, cs, ty, h1, h2, by rw [hb b (by simp [h2])]; exact h3, h4, h5, h6, h7.carry g⟩
theorem GridIn.carry (g : Carries F own w F' own' w') {k : Tag} : ∀ {l : List (List k.T)} {vs : List Value} {bs : List Nat}, (∀ b ∈ bs, w'.heap[b]? = w.heap[b]?) → GridIn F own w k l vs bs → GridIn F' own' w' k l vs bs
  | [], [], bs, _, h => h
  | l :: ls, v :: vs, bs, hb, ⟨b1, b2, h1, h0, h2, h3⟩ => ⟨b1, b2, h1, h0, h2.carry g fun b hbb => hb b (by simp [h1, hbb]), GridIn.carry g (fun b hbb => hb b (by simp [h1, hbb])) h3⟩
  | [], _ :: _, _, _, h => h.elim
  | _ :: _, [], _, _, h => h.elim
theorem MpAt.carry (g : Carries F own w F' own' w') {kk vk : Tag} {l : List (kk.T × vk.T)} {es : Array MapEntry} (h : MpAt F own w kk vk l es) : MpAt F' own' w' kk vk l es :=
  ⟨h.1, fun i x hi => by obtain ⟨e, h1, h2, h3, h4⟩ := h.2 i x hi; exact ⟨e, h1, h2, h3.carry g, h4.carry g⟩⟩
theorem ObRel.carry (g : Carries F own w F' own' w') (hsz : w.heap.size ≤ w'.heap.size) {hd : Hd} (hb : ∀ b ∈ hd.bs, w'.heap[b]? = w.heap[b]?) {o : Ob} (h : ObRel F own w hd o) : ObRel F' own' w' hd o := by
  cases o with
  | cells l => obtain ⟨b, cs, ty, h1, h2, h3, h4, h5⟩ := h; exact ⟨b, cs, ty, h1, h2, by rw [hb b (by simp [h2])]; exact h3, h4, fun j s hj => (h5 j s hj).carry g⟩
  | dead => trivial
  | row k l => exact RowRel.carry g hb h
  | mp kk vk l pend => obtain ⟨b, es, h1, h2, h3, h4⟩ := h; exact ⟨b, es, h1, h2, by rw [hb b (by simp [h2])]; exact h3, h4.carry g⟩
  | grid k l =>
    rcases h with h | ⟨b, o, cap, cs, ty, bs, h1, h2, h3, h4, h5, h6, h7, h8, h9⟩
    · exact .inl h
    · exact .inr ⟨b, o, cap, cs, ty, bs, h1, h2, h3, by rw [hb b (by simp [h2])]; exact h4, h5, h6, h7, h8, h9.carry g fun b' hb' => hb b' (by simp [h2, hb'])⟩
  | ab r =>
    refine ⟨h.1, r.loc _ _ _ w w' h.2 hsz (fun b hbl hn => ?_) (fun b hbl hn => ⟨?_, hn.2⟩)⟩
    · by_cases hm : b ∈ hd.bs
      · exact hb b hm
      · exact (g.keep b hbl fun ho => hn ⟨ho, hm⟩).2
    · exact Classical.byContradiction fun ho => (g.keep b hbl ho).1 hn.1
  | raw o => obtain ⟨b, h1, h2, h3⟩ := h; exact ⟨b, h1, h2, by rw [hb b (by simp [h2])]; exact h3⟩
  | mi mid n left cur =>
    obtain ⟨b, h1, h2, h3⟩ := h
    refine ⟨b, h1, h2, fun i hi => ?_⟩
    obtain ⟨hdm, bm, seen, c0, k1, k2, k3, k4⟩ := h3 i hi
    obtain ⟨hd', e1, e2⟩ := g.ids _ _ k1
    exact ⟨hd', bm, seen, c0, e1, e2.2.1.trans k2, by rw [hb b (by simp [h2])]; exact k3, k4⟩
  | fwd n =>
    intro i hi
    obtain ⟨hd2, k1, k2, k3⟩ := h i hi
    obtain ⟨hd', e1, e2⟩ := g.ids _ _ k1
    exact ⟨hd', e1, e2.2.1.trans k2, k3⟩
structure Hp (F : Nat → Prop) (own : Own) (w : World) (h : List Ob) : Prop where
  dom : ∀ (id : Nat) (hd : Hd), own id = some hd → id < h.length
  foreign : ∀ b, F b → b < w.heap.size
  apart : ∀ (id : Nat) (hd : Hd) (b : Nat), own id = some hd → b ∈ hd.bs → ¬ F b
  inj : ∀ (i j : Nat) (hi hj : Hd) (b : Nat), own i = some hi → own j = some hj → b ∈ hi.bs → b ∈ hj.bs → i = j
  lt : ∀ (id : Nat) (hd : Hd) (b : Nat), own id = some hd → b ∈ hd.bs → b < w.heap.size
  obs : ∀ (id : Nat), isDead (obAt h id) = false → ∃ hd, own id = some hd ∧ ObRel F own w hd (obAt h id)
theorem Hp.at {h : List Ob} (hp : Hp F own w h) {id : Nat} {o : Ob} (ho : obAt h id = o) (hd : isDead o = false) : ∃ hd, own id = some hd ∧ ObRel F own w hd o := by
  subst ho; exact hp.obs id hd
theorem Hp.upd {h h' : List Ob} (hp : Hp F own w h) (g : Goes F own w own' w') (U : Nat → Prop) (hlen : h.length ≤ h'.length)
    (same : ∀ id, ¬ U id → own' id = own id ∧ obAt h' id = obAt h id ∧ ∀ hd b, own id = some hd → b ∈ hd.bs → w'.heap[b]? = w.heap[b]?)
    (new : ∀ id hd, U id → own' id = some hd → id < h'.length ∧ ∀ b ∈ hd.bs, b < w'.heap.size ∧ ¬ F b ∧ ∀ j hj, j ≠ id → own' j = some hj → b ∉ hj.bs)
    (obs : ∀ id, U id → isDead (obAt h' id) = false → ∃ hd, own' id = some hd ∧ ObRel F own' w' hd (obAt h' id)) : Hp F own' w' h' := by
  refine ⟨fun id hd h1 => ?_, fun b hb => Nat.lt_of_lt_of_le (hp.foreign b hb) g.size, fun id hd b h1 h2 => ?_, fun i j hi hj b h1 h2 h3 h4 => ?_, fun id hd b h1 h2 => ?_, fun id hd => ?_⟩
  · by_cases hu : U id
    · exact (new id hd hu h1).1
    · rw [(same id hu).1] at h1; exact Nat.lt_of_lt_of_le (hp.dom id hd h1) hlen
  · by_cases hu : U id
    · exact ((new id hd hu h1).2 b h2).2.1
    · rw [(same id hu).1] at h1; exact hp.apart id hd b h1 h2
  · by_cases hui : U i
    · exact Classical.byContradiction fun hne => ((new i hi hui h1).2 b h3).2.2 j hj (fun e => hne e.symm) h2 h4
    · by_cases huj : U j
      · exact Classical.byContradiction fun hne => ((new j hj huj h2).2 b h4).2.2 i hi (fun e => hne e) h1 h3
      · rw [(same i hui).1] at h1; rw [(same j huj).1] at h2; exact hp.inj i j hi hj b h1 h2 h3 h4
  · by_cases hu : U id
    · exact ((new id hd hu h1).2 b h2).1
    · rw [(same id hu).1] at h1; exact Nat.lt_of_lt_of_le (hp.lt id hd b h1 h2) g.size
  · by_cases hu : U id
    · exact obs id hu hd
    · obtain ⟨e1, e2, e3⟩ := same id hu
      rw [e2] at hd ⊢
      obtain ⟨hdd, q1, q2⟩ := hp.obs id hd
      exact ⟨hdd, by rw [e1]; exact q1, q2.carry g.carries g.size fun b hb => e3 hdd b q1 hb⟩
theorem Hp.goes {h : List Ob} (hp : Hp F own w h) (g : Goes F own w own w') (hown : ∀ (id : Nat) (hd : Hd) (b : Nat), own id = some hd → b ∈ hd.bs → w'.heap[b]? = w.heap[b]?) : Hp F own w' h :=
  hp.upd g (fun _ => False) (Nat.le_refl _) (fun id _ => ⟨rfl, rfl, fun hd b h1 h2 => hown id hd b h1 h2⟩) (fun _ _ hu => hu.elim) (fun _ hu => hu.elim)
theorem Hp.below {h : List Ob} (hp : Hp F own w h) (hb : Below w.heap.size w w') : Hp F own w' h :=
  hp.goes (Goes.below F own hb) fun id hd b h1 h2 => hb.block b (hp.lt id hd b h1 h2)
structure NxOk (own : Own) (h : List Ob) (nx : Nat) : Prop where
  none : own nx = none
  dead : obAt h nx = .dead
theorem Hp.nx {h : List Ob} (hp : Hp F own w h) : NxOk own h h.length := by
  refine ⟨?_, obAt_out (Nat.le_refl _)⟩
  cases ho : own h.length with
  | none => rfl
  | some hd => exact absurd (hp.dom _ _ ho) (Nat.lt_irrefl _)
def Own.set (own : Own) (id : Nat) (hd : Hd) : Own := fun j => if j = id then some hd else own j
theorem Own.set_same (own : Own) (id : Nat) (hd : Hd) : own.set id hd id = some hd := by simp [Own.set]
theorem Own.set_other (own : Own) {id j : Nat} (hd : Hd) (h : j ≠ id) : own.set id hd j = own j := by simp [Own.set, h]
structure Step (F : Nat → Prop) (own : Own) (w : World) (h' : List Ob) (own' : Own) (w' : World) : Prop where
  hp : Hp F own' w' h'
  fr : Fr { w := w, own := own } own' w'
  fresh : ∀ id, own id = none → isDead (obAt h' id) = true → own' id = none
theorem step_new {h : List Ob} (hp : Hp F own w h) {nx : Nat} (hn : NxOk own h nx) {w1 : World} (hw1 : w1.heap = w.heap ∧ w1.os = w.os ∧ w1.tape = w.tape ∧ w1.output = w.output) (o : Obj) (ob : Ob) (hd : Hd) (hbs : hd.bs = [w.heap.size])
    (hob : ∀ own' : Own, Goes F own w own' (w1.alloc o) → ObRel F own' (w1.alloc o) hd ob) (hnd : isDead ob = false := by rfl) : Step F own w (obSet h nx ob) (own.set nx hd) (w1.alloc o) := by
  obtain ⟨q1, q2, q3, q4⟩ := hw1
  have hheap : (w1.alloc o).heap = w.heap.push o := by show w1.heap.push o = _; rw [q1]
  have hold : ∀ b, b < w.heap.size → (w1.alloc o).heap[b]? = w.heap[b]? := fun b hb => by rw [hheap, Array.getElem?_push_lt hb]; simp [hb]
  have hsz : (w1.alloc o).heap.size = w.heap.size + 1 := by rw [hheap]; simp
  have ids : ∀ (id : Nat) (hdd : Hd), own id = some hdd → ∃ hd', own.set nx hd id = some hd' ∧ hdd.like hd' := fun id hdd h1 => by
    have hne : id ≠ nx := fun e => by rw [e, hn.none] at h1; cases h1
    exact ⟨hdd, by rw [Own.set_other _ _ hne]; exact h1, .refl _⟩
  have fr : Fr { w := w, own := own } (own.set nx hd) (w1.alloc o) := Fr.of_step ids (fun id hdd b h1 h2 => by
      by_cases hid : id = nx
      · subst hid; rw [Own.set_same] at h1; cases h1; rw [hbs] at h2; simp at h2; exact .inr (by omega)
      · rw [Own.set_other _ _ hid] at h1; exact .inl ⟨id, hdd, h1, h2⟩) (fun b hb _ => hold b hb) (by omega) q2 q3 q4
  have g : Goes F own w (own.set nx hd) (w1.alloc o) := fr.goes
  refine ⟨hp.upd g (· = nx) (by rw [obSet_length]; split <;> omega) (fun id hid => ⟨Own.set_other _ _ hid, by rw [obAt_set, if_neg (fun e => hid e.symm)], fun hdd b h1 h2 => hold b (hp.lt id hdd b h1 h2)⟩) (fun id hdd hid h1 => ?_) (fun id hid _ => ?_), fr, fun id h1 h2 => ?_⟩
  rotate_left 2
  · by_cases e : id = nx
    · subst e; rw [obAt_set, if_pos rfl, hnd] at h2; cases h2
    · rw [Own.set_other _ _ e]; exact h1
  · subst hid
    rw [Own.set_same] at h1; cases h1
    refine ⟨by rw [obSet_length]; split <;> omega, fun b hb => ?_⟩
    rw [hbs] at hb; simp at hb; subst hb
    refine ⟨by omega, fun hf => Nat.lt_irrefl _ (hp.foreign _ hf), fun j hj hne h2 h3 => ?_⟩
    rw [Own.set_other _ _ hne] at h2
    exact Nat.lt_irrefl _ (hp.lt j hj _ h2 h3)
  · subst hid
    refine ⟨hd, Own.set_same _ _ _, ?_⟩
    rw [obAt_set, if_pos rfl]
    exact hob _ g
theorem step_write {h : List Ob} (hp : Hp F own w h) {id : Nat} {hd : Hd} (h1 : own id = some hd) {b : Nat} (hb : b ∈ hd.bs) (hsz : w'.heap.size = w.heap.size) (hold : ∀ k, k ≠ b → w'.heap[k]? = w.heap[k]?) (q2 : w'.os = w.os) (q3 : w'.tape = w.tape) (q4 : w'.output = w.output) (ob : Ob)
    (hob : Goes F own w own w' → ObRel F own w' hd ob) : Step F own w (obSet h id ob) own w' := by
  have hlt := hp.dom id hd h1
  have fr : Fr { w := w, own := own } own w' := Fr.of_step (fun _ hdd h => ⟨hdd, h, .refl _⟩) (fun id hdd b h1 h2 => .inl ⟨id, hdd, h1, h2⟩) (fun k _ hn => hold k fun e => hn ⟨id, hd, h1, e ▸ hb⟩) (by omega) q2 q3 q4
  refine ⟨hp.upd fr.goes (· = id) (by rw [obSet_length, if_pos hlt]; omega) (fun j hj => ⟨rfl, by rw [obAt_set, if_neg (fun e => hj e.symm)], fun hdd b' h2 h3 => hold b' fun e => hj (hp.inj j id hdd hd b' h2 h1 h3 (e ▸ hb))⟩) (fun j hdd hj h2 => ?_) (fun j hj _ => ?_), fr, fun _ h1 _ => h1⟩
  · subst hj
    rw [h1] at h2; cases h2
    exact ⟨by rw [obSet_length, if_pos hlt]; exact hlt, fun b' hb' => ⟨by rw [hsz]; exact hp.lt j hd b' h1 hb', hp.apart j hd b' h1 hb', fun i hi hne h3 h4 => hne (hp.inj i j hi hd b' h3 h1 h4 hb')⟩⟩
  · subst hj
    refine ⟨hd, h1, ?_⟩
    rw [obAt_set, if_pos rfl]
    exact hob fr.goes
theorem tiOf_spec {t : TypeId} {ti : TI} (h : tiOf P t = some ti) : ∃ i d z, P.info? t = some i ∧ P.underlying t = some d ∧ i.zero = some z ∧ fieldsOk P d = true ∧ ti = tiMk P t i d := by
  unfold tiOf at h
  split at h
  · rename_i i d hi hd
    cases hz : i.zero with
    | none => simp [hz] at h
    | some z =>
      simp only [hz, Option.isSome_some, Bool.true_and] at h
      cases hq : fieldsOk P d with
      | false => simp [hq] at h
      | true => simp [hq] at h; exact ⟨i, d, z, hi, hd, hz, hq, h.symm⟩
  · cases h
theorem run_sizeOf' {t : TypeId} {i : TypeInfo} (h : P.info? t = some i) : (sizeOf t).run P w = .ok i.size w := by
  simp [sizeOf, typeInfo, h]
theorem run_isAgg {t : TypeId} {d : TypeDesc} (h : P.underlying t = some d) : (isAgg t).run P w = .ok (isAggT P t) w := by
  simp only [isAgg, Sem.run_bind, run_underlying h, Result.andThen_ok, isAggT, h]
  cases d <;> simp
theorem add_mid (b o n : Nat) : Addr.add ⟨b, o, none⟩ n = ⟨b, o + n, none⟩ := by unfold Addr.add; split <;> simp_all
theorem cell_of_heap {b : Nat} {cs : Array Value} {ty : TypeId} {fr : Nat × Nat} (h : w.heap[b]? = some (.cells cs ty fr)) (j : Nat) : w.cell? ⟨b, j, none⟩ = cs[j]? := by
  simp [World.cell?, h]
theorem frozen_of_heap {b : Nat} {cs : Array Value} {ty : TypeId} (h : w.heap[b]? = some (.cells cs ty (0, 0))) (j : Nat) : w.frozen? ⟨b, j, none⟩ = false := by
  simp [World.frozen?, h]
theorem load_rel {t : TypeId} {ti : TI} (ht : tiOf P t = some ti) {l : List SV} {b o off : Nat} (c : Nat → Value)
    (hc : ∀ (j : Nat) (s : SV), l[j]? = some s → w.cell? ⟨b, o + j, none⟩ = some (c j) ∧ Rel F own w s (c j)) {s' : SV} (hp : partOf ti.agg ti.size l off = some s') :
    ∃ u, (loadVar t ⟨b, o + off, none⟩).run P w = .ok u w ∧ Rel F own w s' u := by
  obtain ⟨i, d, z, hi, hd, hz, hq, rfl⟩ := tiOf_spec ht
  simp only [tiMk] at hp
  simp only [loadVar, Sem.run_bind, run_isAgg hd, Result.andThen_ok]
  cases ha : isAggT P t with
  | true =>
    simp only [partOf, ha, cond_true, sz_eq, cut_eq, past_eq] at hp
    cases hb : Nat.ble (off + i.size) l.length with
    | false => simp [hb] at hp
    | true =>
      simp only [hb, cond_true, Option.some.injEq] at hp
      subst hp
      have hle : off + i.size ≤ l.length := Nat.le_of_ble_eq_true hb
      simp only [if_true, Sem.run_bind, run_sizeOf' hi, Result.andThen_ok]
      rw [run_loadCells w ⟨b, o + off, none⟩ i.size (fun j => c (off + j)) (fun j hj => by
        have := (hc (off + j) _ (List.getElem?_eq_getElem (by omega))).1
        rw [add_mid, show o + off + j = o + (off + j) by omega]; exact this)]
      refine ⟨_, rfl, .agg (by simp; omega) fun j s hj => ?_⟩
      have hj' : j < i.size := by
        rcases Nat.lt_or_ge j i.size with h | h
        · exact h
        · rw [List.getElem?_take, if_neg (by omega)] at hj; cases hj
      rw [List.getElem?_take, if_pos hj', List.getElem?_drop] at hj
      simp only [Array.getD_eq_getD_getElem?]
      simp [hj']
      exact (hc (off + j) s hj).2
  | false =>
    simp only [partOf, ha, cond_false, nth_eq] at hp
    obtain ⟨h1, h2⟩ := hc _ _ hp
    refine ⟨c off, ?_, h2⟩
    simp [h1]
theorem orVal_some {o : Option SV} {s : SV} (h : orVal o = .val s) : o = some s := by
  cases o with
  | none => simp [orVal] at h
  | some x => simp [orVal] at h; rw [h]
theorem getD_get {α : Type} {l : List α} {i : Nat} {d : α} (h : i < l.length) : l[i]? = some (l.getD i d) := by simp [List.getD, h]
theorem RowAt.get {k : Tag} {l : List k.T} {o : Nat} {cs : Array Value} (h : RowAt F own w k l o cs) {i : Nat} (hi : i < l.length) {j : Nat} {s : SV} (hj : (cellsOf k (l.getD i (dflt k)))[j]? = some s) :
    cs[o + i * sizeOfTag k + j]? = some (cs.getD (o + i * sizeOfTag k + j) undef) ∧ Rel F own w s (cs.getD (o + i * sizeOfTag k + j) undef) := by
  obtain ⟨u, h1, h2⟩ := h i _ (getD_get hi) j s hj
  have : cs.getD (o + i * sizeOfTag k + j) undef = u := by simp [Array.getD_eq_getD_getElem?, h1]
  rw [this]; exact ⟨h1, h2⟩
theorem GridIn.get {k : Tag} : ∀ {l : List (List k.T)} {vs : List Value} {bs : List Nat} {i : Nat} {v : Value}, GridIn F own w k l vs bs → vs[i]? = some v → ∃ b1, one1 v = true ∧ i < l.length ∧ RowRel F own w k (l.getD i []) v b1 ∧ ∀ b ∈ b1, b ∈ bs
  | [], [], bs, i, v, _, h => by simp at h
  | l :: ls, u :: vs, bs, 0, v, ⟨b1, b2, h1, h0, h2, h3⟩, h => by simp at h; subst h; exact ⟨b1, h0, by simp, h2, fun b hb => by simp [h1, hb]⟩
  | l :: ls, u :: vs, bs, i + 1, v, ⟨b1, b2, h1, h0, h2, h3⟩, h => by
    obtain ⟨b3, q1, q2, q3, q4⟩ := GridIn.get h3 (by simpa using h)
    exact ⟨b3, q1, by simp; omega, by simpa using q3, fun b hb => by simp [h1, q4 b hb]⟩
  | [], _ :: _, _, _, _, h, _ => h.elim
  | _ :: _, [], _, _, _, h, _ => h.elim
theorem GridIn.len {k : Tag} : ∀ {l : List (List k.T)} {vs : List Value} {bs : List Nat}, GridIn F own w k l vs bs → vs.length = l.length
  | [], [], _, _ => rfl
  | l :: ls, u :: vs, bs, ⟨b1, b2, h1, h0, h2, h3⟩ => by simp [GridIn.len h3]
  | [], _ :: _, _, h => h.elim
  | _ :: _, [], _, h => h.elim
theorem loadS_ok {h : List Ob} (hp : Hp F own w h) {t : TypeId} {ti : TI} (ht : tiOf P t = some ti) {s s' : SV} {v : Value} (hr : Rel F own w s v) (hl : loadS ti h s = .val s') :
    ∃ u, (Instr.loadAt t v).run P w = .ok u w ∧ Rel F own w s' u := by
  cases hr with
  | ptr h1 h2 =>
    rename_i id off b hd
    simp only [loadS] at hl
    cases ho : obAt h id with
    | cells l =>
      rw [ho] at hl
      have hpo := orVal_some hl
      obtain ⟨hd', e0, b', cs, ty, e1, e2, e3, e4, e5⟩ := hp.at ho rfl
      rw [h1] at e0; cases e0
      rw [h2] at e1; cases e1
      have := load_rel (P := P) (w := w) (F := F) (own := own) (b := b) (o := 0) (off := off) ht (fun j => cs.getD j undef) (fun j s hj => by
        refine ⟨?_, e5 j s hj⟩
        have hjl : j < cs.size := by rw [e4]; exact (List.getElem?_eq_some_iff.1 hj).1
        rw [Nat.zero_add, cell_of_heap e3]; simp [hjl]) hpo
      simpa [Instr.loadAt, Instr.sureAddr] using this
    | _ => rw [ho] at hl; simp [cellsAt] at hl
  | ep c h1 h2 =>
    rename_i cells off b o
    simp only [loadS] at hl
    have hpo := orVal_some hl
    have := load_rel (P := P) (w := w) (F := F) (own := own) (b := b) (o := o) (off := off) ht c (fun j s hj => ⟨(h1 j s hj).2, h2 j s hj⟩) hpo
    simpa [Instr.loadAt, Instr.sureAddr] using this
  | rp h1 h2 h3 =>
    rename_i szt id off n cap b o i hd
    simp only [loadS] at hl
    cases ho : obAt h id with
    | row k l =>
      rw [ho] at hl
      simp only [rowAt] at hl
      cases hb : Nat.beq szt (sizeOfTag k) with
      | false => rw [hb] at hl; cases hl
      | true =>
        rw [hb] at hl
        have hsz := Nat.eq_of_beq_eq_true hb
        have hpo := orVal_some hl
        obtain ⟨hd', e0, e⟩ := hp.at ho rfl
        rw [h1] at e0; cases e0
        rcases e with ⟨a, e1, _⟩ | ⟨b', o', cap', cs, ty, e1, e2, e3, e4, e5, e6, e7⟩
        · rw [h2] at e1; cases e1; omega
        · rw [h2] at e1
          simp only [Value.slice.injEq, Option.some.injEq, Addr.mk.injEq] at e1
          obtain ⟨⟨rfl, rfl, _⟩, rfl, rfl⟩ := e1
          have := load_rel (P := P) (w := w) (F := F) (own := own) (b := b) (o := o + i.toNat * szt) (off := off) ht (fun j => cs.getD (o + i.toNat * sizeOfTag k + j) undef) (fun j s hj => by
            have := e7.get h3 hj
            rw [cell_of_heap e3, hsz]; exact this) hpo
          simpa [Instr.loadAt, Instr.sureAddr] using this
    | grid k l =>
      rw [ho] at hl
      simp only [rowAt] at hl
      cases hb : Nat.beq szt 1 && Nat.beq off 0 && !ti.agg with
      | false => rw [hb] at hl; cases hl
      | true =>
        rw [hb] at hl
        simp only [Bool.and_eq_true, Bool.not_eq_true'] at hb
        have hs1 := Nat.eq_of_beq_eq_true hb.1.1
        have hs2 := Nat.eq_of_beq_eq_true hb.1.2
        subst hs1; subst hs2
        simp only [cond_true, OR.val.injEq] at hl
        subst hl
        obtain ⟨hd', e0, e⟩ := hp.at ho rfl
        rw [h1] at e0; cases e0
        rcases e with ⟨e1, _⟩ | ⟨b', o', cap', cs, ty, bs, e1, e2, e3, e4, e5, e6, e7, e8, e9⟩
        · rw [h2] at e1; cases e1
        · rw [h2] at e1
          simp only [Value.slice.injEq, Option.some.injEq, Addr.mk.injEq] at e1
          obtain ⟨⟨rfl, rfl, _⟩, rfl, rfl⟩ := e1
          have hlen := e9.len
          have hv : hd.vs[i.toNat]? = some (hd.vs.getD i.toNat undef) := getD_get (by rw [hlen]; exact h3)
          obtain ⟨b1, q1, q2, q3, q4⟩ := e9.get hv
          refine ⟨_, ?_, .gr h1 hv q1⟩
          obtain ⟨i', d, z, hi, hdd, hz, hq, rfl⟩ := tiOf_spec ht
          have hcell : w.cell? ⟨b, o + i.toNat, none⟩ = some (hd.vs.getD i.toNat undef) := by rw [cell_of_heap e4]; exact e8 _ _ hv
          have hag : isAggT P t = false := hb.2
          simp [Instr.loadAt, Instr.sureAddr, loadVar, run_isAgg hdd, hag, hcell]
    | _ => rw [ho] at hl; simp [rowAt] at hl
  | gp h1 h2 h3 =>
    rename_i szt id off n cap b o i j hd
    simp only [loadS] at hl
    cases ho : obAt h id with
    | grid k l =>
      rw [ho] at hl
      simp only [gridAt] at hl
      cases hb : Nat.beq szt (sizeOfTag k) with
      | false => rw [hb] at hl; cases hl
      | true =>
        rw [hb] at hl
        have hsz := Nat.eq_of_beq_eq_true hb
        have hpo := orVal_some hl
        obtain ⟨hd', e0, e⟩ := hp.at ho rfl
        rw [h1] at e0; cases e0
        rcases e with ⟨_, _, e1, _⟩ | ⟨b', o', cap', cs, ty, bs, e1, e2, e3, e4, e5, e6, e7, e8, e9⟩
        · rw [e1] at h2; simp at h2
        · obtain ⟨b1, q1, q2, q3, q4⟩ := e9.get h2
          rcases q3 with ⟨a, k1, _⟩ | ⟨b2, o2, cap2, cs2, ty2, k1, k2, k3, k4, k5, k6, k7⟩
          · cases k1; omega
          · simp only [Value.slice.injEq, Option.some.injEq, Addr.mk.injEq] at k1
            obtain ⟨⟨rfl, rfl, _⟩, rfl, rfl⟩ := k1
            have := load_rel (P := P) (w := w) (F := F) (own := own) (b := b) (o := o + j.toNat * szt) (off := off) ht (fun q => cs2.getD (o + j.toNat * sizeOfTag k + q) undef) (fun q s hj => by
              have := k7.get h3 hj
              rw [cell_of_heap k3, hsz]; exact this) hpo
            simpa [Instr.loadAt, Instr.sureAddr] using this
    | _ => rw [ho] at hl; simp [gridAt] at hl
  | _ => simp [loadS] at hl
theorem fieldTi {t : TypeId} {ti : TI} (ht : tiOf P t = some ti) {f : Nat} {x : Nat × Nat × Bool} (hf : nth ti.fields f = some x) :
    ∃ fs fd, P.underlying t = some (.struct fs) ∧ fs[f]? = some fd ∧ x = (fd.offset, sizeT P fd.type, isAggT P fd.type) := by
  obtain ⟨i, d, z, hi, hd, hz, hq, rfl⟩ := tiOf_spec ht
  simp only [tiMk, nth_eq] at hf
  cases d <;> simp at hf
  rename_i fs
  obtain ⟨fd, h1, h2⟩ := hf
  exact ⟨fs, fd, hd, h1, h2.symm⟩
theorem offS_ok {s s' : SV} {v : Value} {n : Nat} (hr : Rel F own w s v) (h : offS n s = .val s') :
    ∃ b o, v = .pointer (some ⟨b, o, none⟩) ∧ Rel F own w s' (.pointer (some ⟨b, o + n, none⟩)) := by
  cases hr with
  | ptr h1 h2 => simp only [offS, OR.val.injEq] at h; subst h; exact ⟨_, _, rfl, .ptr h1 h2⟩
  | ep c h1 h2 => simp only [offS, OR.val.injEq] at h; subst h; exact ⟨_, _, rfl, by rw [Nat.add_assoc]; exact .ep c h1 h2⟩
  | rp h1 h2 h3 => simp only [offS, OR.val.injEq] at h; subst h; exact ⟨_, _, rfl, by rw [Nat.add_assoc]; exact .rp h1 h2 h3⟩
  | gp h1 h2 h3 => simp only [offS, OR.val.injEq] at h; subst h; exact ⟨_, _, rfl, by rw [Nat.add_assoc]; exact .gp h1 h2 h3⟩
  | _ => simp [offS] at h
theorem fieldAddr_ok {t : TypeId} {ti : TI} (ht : tiOf P t = some ti) {f o n : Nat} {g : Bool} (hf : nth ti.fields f = some (o, n, g)) (hn : 1 ≤ n) {s s' : SV} {v : Value}
    (hr : Rel F own w s v) (h : offS o s = .val s') : ∃ u, (Instr.fieldAt t v f).run P w = .ok u w ∧ Rel F own w s' u := by
  obtain ⟨fs, fd, hu, hfd, he⟩ := fieldTi ht hf
  obtain ⟨b, q, rfl, hs⟩ := offS_ok hr h
  simp only [Prod.mk.injEq] at he
  obtain ⟨rfl, rfl, rfl⟩ := he
  refine ⟨_, ?_, hs⟩
  have hsz : (sizeOf fd.type).run P w = .ok (sizeT P fd.type) w := by
    cases hi : P.info? fd.type with
    | none => simp [sizeT, hi] at hn
    | some i => simp [run_sizeOf' hi, sizeT, hi]
  simp only [Instr.fieldAt, Sem.run_bind, run_underlying hu, Result.andThen_ok, hfd, Instr.sureAddr, Sem.run_pure, fieldPlace, hsz]
  rw [if_neg (by omega)]
  simp [add_mid]
theorem fieldS_ok {t : TypeId} {ti : TI} (ht : tiOf P t = some ti) {f : Nat} {s s' : SV} {v : Value} (hr : Rel F own w s v) (h : fieldS (nth ti.fields f) (aggL s) = .val s') :
    ∃ u, (Instr.field t v f).run P w = .ok u w ∧ Rel F own w s' u := by
  cases hf : nth ti.fields f with
  | none => simp [hf, fieldS] at h
  | some x =>
    obtain ⟨o, n, g⟩ := x
    obtain ⟨fs, fd, hu, hfd, he⟩ := fieldTi ht hf
    simp only [Prod.mk.injEq] at he
    obtain ⟨rfl, rfl, rfl⟩ := he
    obtain ⟨i, d, z, hi, hd, hz, hq, rfl⟩ := tiOf_spec ht
    rw [hd] at hu; cases hu
    have hq' : (P.info? fd.type).isSome ∧ (P.underlying fd.type).isSome := by
      simp only [fieldsOk, List.all_eq_true, Bool.and_eq_true] at hq
      exact hq fd (by have := Array.mem_of_getElem? hfd; simpa using this)
    obtain ⟨fi, hfi⟩ := Option.isSome_iff_exists.1 hq'.1
    obtain ⟨fd', hfu⟩ := Option.isSome_iff_exists.1 hq'.2
    have key : ∀ (l : List SV) (vs : Array Value), vs.size = l.length → (∀ (j : Nat) (s : SV), l[j]? = some s → Rel F own w s (vs.getD j undef)) → fieldS (some (fd.offset, sizeT P fd.type, isAggT P fd.type)) (some l) = .val s' →
        ∃ u, (part fd.type vs fd.offset).run P w = .ok u w ∧ Rel F own w s' u := by
      intro l vs hl hrel hfs
      simp only [fieldS] at hfs
      cases hp : partOf (isAggT P fd.type) (sizeT P fd.type) l fd.offset with
      | none => simp [hp, orVal] at hfs
      | some q =>
        simp only [hp, orVal, OR.val.injEq] at hfs
        subst hfs
        simp only [sizeT, hfi] at hp
        simp only [part, Sem.run_bind, run_isAgg hfu, Result.andThen_ok]
        cases ha : isAggT P fd.type with
        | true =>
          simp only [partOf, ha, cond_true, sz_eq, cut_eq, past_eq] at hp
          cases hb : Nat.ble (fd.offset + fi.size) l.length with
          | false => simp [hb] at hp
          | true =>
            simp only [hb, cond_true, Option.some.injEq] at hp
            subst hp
            have hle := Nat.le_of_ble_eq_true hb
            simp only [if_true, Sem.run_bind, run_sizeOf' hfi, Result.andThen_ok, Sem.run_pure]
            refine ⟨_, rfl, .agg (by simp; omega) fun j s hj => ?_⟩
            have hj' : j < fi.size := by
              rcases Nat.lt_or_ge j fi.size with h | h
              · exact h
              · rw [List.getElem?_take, if_neg (by omega)] at hj; cases hj
            rw [List.getElem?_take, if_pos hj', List.getElem?_drop] at hj
            have := hrel (fd.offset + j) s hj
            simp only [Array.getD_eq_getD_getElem?] at this ⊢
            rw [Array.getElem?_extract_of_lt (by omega)]
            rwa [Array.getElem?_eq_getElem (by omega)] at this
        | false =>
          simp only [partOf, ha, cond_false, nth_eq] at hp
          have h1 := hrel _ _ hp
          have hlt : fd.offset < vs.size := by rw [hl]; exact (List.getElem?_eq_some_iff.1 hp).1
          refine ⟨vs.getD fd.offset undef, ?_, h1⟩
          simp [hlt]
    cases hr with
    | agg h0 h1 =>
      simp only [aggL] at h
      rw [hf] at h
      obtain ⟨u, hu, hru⟩ := key _ _ h0 h1 h
      exact ⟨u, by simp only [Instr.field, Sem.run_bind, run_underlying hd, Result.andThen_ok, hfd, asAgg, Sem.run_pure, hu], hru⟩
    | v x =>
      cases v with
      | agg cs =>
        simp only [aggL] at h
        rw [hf] at h
        obtain ⟨u, hu, hru⟩ := key (cs.toList.map .v) cs (by simp) (fun j s hj => by
          simp at hj
          obtain ⟨z, hz, rfl⟩ := hj
          simp [hz]; exact .v _) h
        exact ⟨u, by simp only [Instr.field, Sem.run_bind, run_underlying hd, Result.andThen_ok, hfd, asAgg, Sem.run_pure, hu], hru⟩
      | _ => simp [aggL, fieldS] at h
    | _ => simp [aggL, fieldS] at h
end
end Go.Sx
end
section
namespace Go.Sx
open Go.RowKit
section
variable {P : Program} {F : Nat → Prop} {own : Own} {w : World}
theorem run_asIntOf (k : IntKind) (n : Int) : (asIntOf (.int k n)).run P w = .ok (k, n) w := rfl
theorem index_slice {t : TypeId} {e : TypeId} {ie : TypeInfo} (hd : P.underlying t = some (.slice e)) (hie : P.info? e = some ie) {b o n cap : Nat} {k : IntKind} {i : Int} (h0 : 0 ≤ i) (h1 : i.toNat < n) :
    (Instr.indexAt t (.slice (some ⟨b, o, none⟩) n cap) (.int k i)).run P w = .ok (.pointer (some ⟨b, o + i.toNat * ie.size, none⟩)) w := by
  simp only [Instr.indexAt, Sem.run_bind, run_asIntOf, Result.andThen_ok, run_underlying hd, Sem.run_pure]
  rw [Sem.run_ite, if_pos (by omega)]
  simp [run_sizeOf' hie, add_mid]
theorem index_arr {t : TypeId} {e : TypeId} {len : Nat} {ie : TypeInfo} (hd : P.underlying t = some (.array len e)) (hie : P.info? e = some ie) {b o : Nat} {k : IntKind} {i : Int} (hc : 0 ≤ i ∧ i < (len : Int)) :
    (Instr.indexAt t (.pointer (some ⟨b, o, none⟩)) (.int k i)).run P w = .ok (.pointer (some ⟨b, o + i.toNat * ie.size, none⟩)) w := by
  simp only [Instr.indexAt, Sem.run_bind, run_asIntOf, Result.andThen_ok, run_underlying hd, Instr.sureAddr, Sem.run_pure]
  rw [Sem.run_ite, if_pos hc]
  simp [run_sizeOf' hie, add_mid]
theorem indexS_ok {h : List Ob} (hp : Hp F own w h) {t : TypeId} {ti te : TI} (ht : tiOf P t = some ti) (hte : tiOf P ti.elem = some te) {s si : SV} {v vi : Value} {r : OR}
    (hr : Rel F own w s v) (hri : Rel F own w si vi) (he : indexS ti te.size h s si = r) (hne : r ≠ .bad) :
    ∃ c s', r = .chk c s' ∧ (c → ∃ u, (Instr.indexAt t v vi).run P w = .ok u w ∧ Rel F own w s' u) := by
  obtain ⟨i, d, z, hi, hd, hz, hq, rfl⟩ := tiOf_spec ht
  obtain ⟨ie, de, ze, hie, hde, hze, hqe, hte'⟩ := tiOf_spec hte
  have hes : te.size = ie.size := by rw [hte']; rfl
  have key : ∀ k n, si = .v (.int k n) → ∃ c s', r = .chk c s' ∧ (c → ∃ u, (Instr.indexAt t v (.int k n)).run P w = .ok u w ∧ Rel F own w s' u) := by
    rintro k n rfl
    have slice : (tiMk P t i d).isSlice = true → ∃ e, d = .slice e ∧ P.info? e = some ie := fun hs => by
      cases d <;> simp [tiMk] at hs
      exact ⟨_, rfl, by simpa [tiMk] using hie⟩
    have arr : (tiMk P t i d).isArr = true → ∃ len e, d = .array len e ∧ P.info? e = some ie ∧ (tiMk P t i d).len = len := fun hs => by
      cases d <;> simp [tiMk] at hs
      exact ⟨_, _, rfl, by simpa [tiMk] using hie, rfl⟩
    cases hr with
    | rs cf h0 h0' h1 h2 =>
      rename_i kt l b o cap
      simp only [indexS] at he
      cases hb : (tiMk P t i d).isSlice && Nat.beq te.size (sizeOfTag kt) with
      | false => rw [hb] at he; exact absurd he.symm hne
      | true =>
        rw [hb] at he; simp only [cond_true] at he
        simp only [Bool.and_eq_true] at hb
        obtain ⟨e, rfl, hie'⟩ := slice hb.1
        have hsz : te.size = sizeOfTag kt := Nat.eq_of_beq_eq_true hb.2
        refine ⟨_, _, he.symm, fun hc => ⟨_, index_slice hd hie' hc.1 (by omega), ?_⟩⟩
        have hlt : n.toNat < l.length := by omega
        have := Rel.ep (F := F) (own := own) (w := w) (cells := cellsOf kt (l.getD n.toNat (dflt kt))) (off := 0) (b := b) (o := o + n.toNat * sizeOfTag kt) (cf n.toNat)
          (fun j s hj => h1 n.toNat _ (getD_get hlt) j s hj) (fun j s hj => h2 n.toNat _ (getD_get hlt) j s hj)
        rw [← hes, hsz]; exact this
    | rs0 =>
      rename_i kt a cap
      simp only [indexS] at he
      cases hb : (tiMk P t i d).isSlice && Nat.beq te.size (sizeOfTag kt) with
      | false => rw [hb] at he; exact absurd he.symm hne
      | true =>
        rw [hb] at he; simp only [cond_true] at he
        exact ⟨_, _, he.symm, fun hc => by simp at hc; omega⟩
    | os h1 h2 =>
      rename_i id hdd
      simp only [indexS] at he
      cases hb : (tiMk P t i d).isSlice with
      | false => rw [hb] at he; exact absurd he.symm hne
      | true =>
        rw [hb] at he; simp only [cond_true] at he
        obtain ⟨e, rfl, hie'⟩ := slice hb
        cases ho : obAt h id with
        | row kt l =>
          rw [ho] at he; simp only [indexO] at he
          cases hbe : Nat.beq te.size (sizeOfTag kt) with
          | false => rw [hbe] at he; exact absurd he.symm hne
          | true =>
            rw [hbe] at he; simp only [cond_true] at he
            obtain ⟨hd', e0, e1⟩ := hp.at ho rfl
            rw [h1] at e0; cases e0
            refine ⟨_, _, he.symm, fun hc => ?_⟩
            rcases e1 with ⟨a, q1, rfl, _⟩ | ⟨b, o, cap, cs, ty, q1, q2, q3, q4, q5, q6, q7⟩
            · simp at hc; omega
            · rw [q1]
              refine ⟨_, index_slice hd hie' hc.1 (by omega), ?_⟩
              have := Rel.rp (F := F) (own := own) (w := w) (sz := te.size) (off := 0) (i := n) h1 q1 (by omega)
              rw [← hes]; simpa using this
        | grid kt l =>
          rw [ho] at he; simp only [indexO] at he
          cases hbe : Nat.beq te.size 1 with
          | false => rw [hbe] at he; exact absurd he.symm hne
          | true =>
            rw [hbe] at he; simp only [cond_true] at he
            have hsz := Nat.eq_of_beq_eq_true hbe
            obtain ⟨hd', e0, e1⟩ := hp.at ho rfl
            rw [h1] at e0; cases e0
            refine ⟨_, _, he.symm, fun hc => ?_⟩
            rcases e1 with ⟨q1, rfl, _⟩ | ⟨b, o, cap, cs, ty, bs, q1, q2, q3, q4, q5, q6, q7, q8, q9⟩
            · simp at hc; omega
            · rw [q1]
              refine ⟨_, index_slice hd hie' hc.1 (by omega), ?_⟩
              have := Rel.rp (F := F) (own := own) (w := w) (sz := 1) (off := 0) (i := n) h1 q1 (by omega)
              rw [← hes, hsz]; simpa using this
        | _ => rw [ho] at he; exact absurd he.symm hne
    | gr h1 h2 h3 =>
      rename_i id q hdd
      simp only [indexS] at he
      cases hb : (tiMk P t i d).isSlice with
      | false => rw [hb] at he; exact absurd he.symm hne
      | true =>
        rw [hb] at he; simp only [cond_true] at he
        obtain ⟨e, rfl, hie'⟩ := slice hb
        cases ho : obAt h id with
        | grid kt l =>
          rw [ho] at he; simp only [indexG] at he
          cases hbe : Nat.beq te.size (sizeOfTag kt) with
          | false => rw [hbe] at he; exact absurd he.symm hne
          | true =>
            rw [hbe] at he; simp only [cond_true] at he
            obtain ⟨hd', e0, e1⟩ := hp.at ho rfl
            rw [h1] at e0; cases e0
            refine ⟨_, _, he.symm, fun hc => ?_⟩
            rcases e1 with ⟨_, _, q1, _⟩ | ⟨b, o, cap, cs, ty, bs, q1, q2, q3, q4, q5, q6, q7, q8, q9⟩
            · rw [q1] at h2; simp at h2
            · obtain ⟨b1, k1, k2, k3, k4⟩ := q9.get h2
              rcases k3 with ⟨a, m1, m2, _⟩ | ⟨b2, o2, cap2, cs2, ty2, m1, m2, m3, m4, m5, m6, m7⟩
              · rw [m2] at hc; simp at hc; omega
              · subst m1
                refine ⟨_, index_slice hd hie' hc.1 (by omega), ?_⟩
                have := Rel.gp (F := F) (own := own) (w := w) (sz := te.size) (off := 0) (i := q) (j := n) h1 h2 (by omega)
                rw [← hes]; simpa using this
        | _ => rw [ho] at he; exact absurd he.symm hne
    | ls cf h0 h1 h2 =>
      rename_i l b o cap
      simp only [indexS] at he
      cases hb : (tiMk P t i d).isSlice && Nat.beq te.size 1 with
      | false => rw [hb] at he; exact absurd he.symm hne
      | true =>
        rw [hb] at he; simp only [cond_true] at he
        simp only [Bool.and_eq_true] at hb
        obtain ⟨e, rfl, hie'⟩ := slice hb.1
        have hsz := Nat.eq_of_beq_eq_true hb.2
        rw [nth_eq] at he
        cases hx : l[n.toNat]? with
        | none => rw [hx] at he; exact absurd he.symm hne
        | some x =>
          rw [hx] at he
          have hlt := (List.getElem?_eq_some_iff.1 hx).1
          refine ⟨_, _, he.symm, fun hc => ⟨_, index_slice hd hie' hc hlt, ?_⟩⟩
          have := Rel.ep (F := F) (own := own) (w := w) (cells := [x]) (off := 0) (b := b) (o := o + n.toNat) (fun _ => cf n.toNat)
            (fun j s hj => by cases j with
              | zero => simp at hj; subst hj; exact h1 _ _ hx
              | succ j => simp at hj) (fun j s hj => by cases j with
              | zero => simp at hj; subst hj; exact h2 _ _ hx
              | succ j => simp at hj)
          rw [← hes, hsz]; simpa using this
    | ptr h1 h2 =>
      simp only [indexS] at he
      cases hb : (tiMk P t i d).isArr with
      | false => rw [hb] at he; exact absurd he.symm hne
      | true =>
        rw [hb] at he; simp only [cond_true] at he
        obtain ⟨len, e, rfl, hie', hl⟩ := arr hb
        exact ⟨_, _, he.symm, fun hc => ⟨_, index_arr hd hie' hc, by rw [← hes]; exact .ptr h1 h2⟩⟩
    | ep cf h1 h2 =>
      simp only [indexS] at he
      cases hb : (tiMk P t i d).isArr with
      | false => rw [hb] at he; exact absurd he.symm hne
      | true =>
        rw [hb] at he; simp only [cond_true] at he
        obtain ⟨len, e, rfl, hie', hl⟩ := arr hb
        exact ⟨_, _, he.symm, fun hc => ⟨_, index_arr hd hie' hc, by rw [← hes, Nat.add_assoc]; exact .ep cf h1 h2⟩⟩
    | rp h1 h2 h3 =>
      simp only [indexS] at he
      cases hb : (tiMk P t i d).isArr with
      | false => rw [hb] at he; exact absurd he.symm hne
      | true =>
        rw [hb] at he; simp only [cond_true] at he
        obtain ⟨len, e, rfl, hie', hl⟩ := arr hb
        exact ⟨_, _, he.symm, fun hc => ⟨_, index_arr hd hie' hc, by rw [← hes, Nat.add_assoc]; exact .rp h1 h2 h3⟩⟩
    | _ => simp only [indexS] at he; exact absurd he.symm hne
  cases hri with
  | v =>
    cases vi with
    | int k n => exact key k n rfl
    | _ => cases s <;> first | (simp only [indexS] at he; exact absurd he.symm hne) | (exact absurd he.symm hne)
  | _ => cases s <;> first | (simp only [indexS] at he; exact absurd he.symm hne) | (exact absurd he.symm hne)
theorem intOp_val {op : BinOp} {k : IntKind} {a b : Int} {s : SV} {ty : TypeId} (h : intOp op k a b = .val s) : ∃ u, (binOp op ty (.int k a) (.int k b)).run P w = .ok u w ∧ s = .v u := by
  cases op <;> simp [intOp] at h <;> subst h <;> exact ⟨_, by simp [binOp, Op.intArith, Op.intCmp], rfl⟩
theorem intOp_chk {op : BinOp} {k : IntKind} {a b : Int} {s : SV} {ty : TypeId} {c : Prop} (h : intOp op k a b = .chk c s) (hc : c) : ∃ u, (binOp op ty (.int k a) (.int k b)).run P w = .ok u w ∧ s = .v u := by
  by_cases ho : op = .shr
  · subst ho
    simp only [intOp, OR.chk.injEq] at h
    obtain ⟨rfl, rfl⟩ := h
    refine ⟨.int k (shrI k a b), ?_, rfl⟩
    simp only [binOp]
    unfold Op.shift
    rw [if_neg (Int.not_lt.2 hc)]
    rfl
  · cases op <;> simp only [intOp, OR.chk.injEq, reduceCtorEq] at h <;> first | exact absurd rfl ho | (obtain ⟨rfl, rfl⟩ := h; exact ⟨_, by simp [binOp, Op.intDiv, hc], rfl⟩)
theorem kN_inj {k k' : IntKind} (h : Nat.beq (kN k) (kN k') = true) : k = k' := by
  cases k <;> cases k' <;> simp [kN] at h <;> rfl
theorem tagN_inj {k k' : Tag} (h : Nat.beq (tagN k) (tagN k') = true) : k = k' := by
  have h' := Nat.eq_of_beq_eq_true h
  cases k <;> cases k' <;> first | rfl | (simp [tagN] at h'; done)
theorem eqGuard_int (op : BinOp) (t : TypeId) (x y : Operand) (k k' : IntKind) (a b : Int) : (eqGuard op t x y (.int k a) (.int k' b)).run P w = .ok () w := by
  cases op <;> simp [eqGuard]
theorem binS_cases {op : BinOp} {k k' : IntKind} {a b : Int} {r : OR} (h : binS op (.v (.int k a)) (.v (.int k' b)) = r) (hr : r ≠ .bad) : k = k' ∧ r = intOp op k a b := by
  unfold binS at h
  simp only at h
  cases hb : Nat.beq (kN k) (kN k') with
  | false => simp [hb] at h; exact absurd h.symm hr
  | true => simp [hb] at h; exact ⟨kN_inj hb, h.symm⟩
end
end Go.Sx
end
