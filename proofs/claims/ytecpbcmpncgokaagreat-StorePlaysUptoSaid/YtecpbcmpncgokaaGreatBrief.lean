/- Walks and laws. Conditions: as stated. -/
import Derived.Deep.QuietTactic
import Derived.StringKeys
import Derived.RangeFuncRecord
import Derived.Laws.Bits64
import Derived.Lib.AppendZerosOnto
import Derived.TacticsIn
import Derived.Test.YtecpbcmpncgokaaGreatRows
import Derived.OrdersHeld
import Derived.IntWalk
import Derived.Lib.Hide
set_option linter.all false
namespace Go
open RowKit
abbrev BA := ByteArray
abbrev LU := List UInt8
abbrev OA := Option Addr
theorem qI {p : Prop} (h : p) : RowKit.Hid p := h
theorem lR (n : Nat) : n <= n := Nat.le_refl n
theorem bR (B : Nat) (w : World) : Below B w w := Below.refl B w
theorem gR (w : World) (row : Option Nat) : w.grownBy w row := World.grownBy.refl w row
theorem dT {p : Prop} [Decidable p] (h : p) : decide p = true := decide_eq_true h
theorem qF {p : Prop} [Decidable p] (h : ¬ p) : decide p = false := decide_eq_false h
theorem qJ {n : Int} (h : -9223372036854775808 <= n /\ n <= 9223372036854775807) : IntKind.i64.wrap n = n := IntWalk.i64_in n h
theorem gE {α : Type _} {l : List α} {i : Nat} (h : i < l.length) : l[i]? = some l[i] := List.getElem?_eq_getElem h
theorem nZ {α : Type _} {l : List α} (h : l.length = 0) : l = [] := List.eq_nil_of_length_eq_zero h
theorem lT {a b c : Nat} (h : a <= b) (k : b <= c) : a <= c := Nat.le_trans h k
theorem zL {n : Nat} : 0 <= n := Nat.zero_le _
theorem gS {α : Type _} {l : List α} {i : Nat} {a : α} : l[i]? = some a ↔ ∃ h : i < l.length, l[i] = a := List.getElem?_eq_some_iff
theorem bN {α : Type _} [BEq α] [LawfulBEq α] {a b : α} : (a == b) = false ↔ a ≠ b := beq_eq_false_iff_ne
theorem qkR {p : Prop} (h : p := by kernel_rfl) : p := h
theorem qiJ (n : Int) (h : -9223372036854775808 <= n /\ n <= 9223372036854775807 := by omega) : IntKind.i64.wrap n = n := IntWalk.i64_in n h
theorem dtX (p : Prop) [Decidable p] (h : p := by omega) : decide p = true := decide_eq_true h
theorem dfX (p : Prop) [Decidable p] (h : ¬ p := by omega) : decide p = false := decide_eq_false h
theorem zeI (n : Nat) : (0 : Int) <= (n : Int) := by omega
theorem ltI (a b : Nat) (h : a < b := by omega) : (a : Int) < (b : Int) := by omega
def b7:=@List.length_append
def b8:=@List.length_drop
def b9:=@List.length_take
def c9:=@List.getElem?_eq_some_iff
def e9:=@List.mem_map
def g7:=@List.length_map
def g8:=@List.mem_of_getElem?
def g9:=@List.append_assoc
def i7:=@List.mem_singleton
def i8:=@List.mem_cons
def i9:=@List.take_of_length_le
def j7:=@Array.getElem?_eq_some_iff
def j8:=@List.mem_cons_self
def j9:=@Go.World.ownsRow_nil
def k7:=@Go.World.cell?_of_block
def k8:=@List.mem_cons_of_mem
def l7:=@List.mem_append
def l8:=@List.drop_eq_getElem_cons
def l9:=@Go.Proofs.Tryz.underlying9
def m7:=@List.getElem?_map
def m8:=@Bool.and_eq_true
def m9:=@List.not_mem_nil
def n9:=@List.take_succ_eq_append_getElem
def o7:=@Go.World.block_lt_of_cell?
def o8:=@Go.World.drewN_drewN
def p7:=@Nat.eq_zero_or_pos
def p8:=@List.map_append
def p9:=@List.drop_eq_nil_of_le
def q7:=@Go.Proofs.Tryz.underlying36
def q8:=@Int.tmod_eq_emod_of_nonneg
def q9:=@Go.Proofs.Tryz.underlying38
def r8:=@List.take_append_drop
def r9:=@Nat.lt_of_lt_of_le
def s8:=@List.pairwise_cons
def s9:=@Nat.mul_one
def t7:=@List.take_add_one
def t8:=@Go.ByteArray.toList_eq
def u7:=@Go.World.size_alloc
def u9:=@Go.Proofs.Tryz.underlying40
def v7:=@Array.length_toList
def w7:=@List.getElem?_take
def w8:=@List.pairwise_singleton
def w9:=@List.map_map
def x7:=@Go.Proofs.Tryz.underlying269
def x8:=@Go.IntKind.wrap_u32
def x9:=@Nat.zero_add
def y7:=@List.take_length
def y8:=@List.drop_zero
def y9:=@List.contains_iff_mem
def z7:=@Array.getD_eq_getD_getElem?
def z8:=@Go.Proofs.Tryz.underlying5
def A9:=@Go.Calls.quiet_of_same
def B9:=@Go.Proofs.Tryz.underlying3
def C7:=@Go.RowKit.Below.heap_alloc
def C8:=@List.getElem?_eq_none
def C9:=@UInt8.toNat_inj
def D7:=@Go.Proofs.Tryz.underlying140
def D8:=@Nat.lt_or_ge
def E7:=@Go.World.ownsRow.alloc
def E8:=@List.pairwise_iff_getElem
def E9:=@List.nodup_append
def F7:=@Go.World.cell?_alloc_lt
def F8:=@Go.MapKept.run_getObj_map
def F9:=@Go.RowKit.Below.heap_setCell
def G7:=@List.getElem?_append_right
def G8:=@Go.World.cell?_setCell_other
def G9:=@List.getElem?_append_left
def H7:=@Nat.le_of_lt
def H8:=@Go.Addr.add_lit
def H9:=@List.getElem?_drop
def I7:=@List.mem_flatMap
def I8:=@List.getElem_of_mem
def I9:=@List.flatMap_append
def J8:=@Bool.eq_false_iff
def J9:=@Go.Proofs.Tryz.underlying344
def K7:=@List.mem_append_left
def K8:=@Option.some.inj
def L7:=@Go.MapKept.run_setObj_map
def L9:=@List.length_pos_iff
def M6:=@Option.some.injEq
def M7:=@Go.Result.andThen_ok
def M8:=@List.flatten_cons
def M9:=@Go.DataW.trod_string
def Np:=@ByteArray.data_append
def Nq:=@List.mem_range
def Nr:=@Option.isSome_iff_exists
def Ns:=@Nat.pow_succ
def Nt:=@List.getElem_map
def Nu:=@List.all_eq_true
def Nv:=@List.getElem?_of_mem
def Nw:=@List.take_zero
def Nx:=@List.take_left
def Ny:=@List.Pairwise.nil
def Nz:=@List.take_succ_cons
def NA:=@List.mergeSort_perm
def NB:=@List.length_reverse
def NC:=@List.getLast?_eq_getElem?
def ND:=@List.length_singleton
def NE:=@List.length_replicate
def NF:=@List.getElem_mem
def NG:=@UInt8.toNat_ofNat'
def NH:=@Option.getD_some
def NI:=@Go.Sem.run_bind
def NJ:=@Go.WideMaps.keyOf_string_mk
def NK:=@Prod.mk.inj
def NL:=@Nat.pow_le_pow_right
def NM:=@Go.World.putObj_heap_other
def NN:=@Nat.add_sub_cancel_left
def NO:=@List.pairwise_mergeSort
def NP:=@List.nodup_cons
def NQ:=@List.mem_filter
def NR:=@Go.IntKind.wrap_u8
def NS:=@Array.getElem?_setIfInBounds
def NT:=@List.map_congr_left
def NU:=@Go.Sem.run_pure
def NV:=@Nat.mod_eq_of_lt
def NW:=@Int.tdiv_eq_ediv_of_nonneg
def NY:=@List.getElem?_reverse
def NZ:=@Array.getElem?_eq_getElem
def N6:=@Go.World.ownsRow_lit
def N7:=@Go.Proofs.Tryz.underlying22
def N8:=@List.ext_getElem?
def N9:=@Array.all_eq_true_iff_forall_mem
def Oa:=@List.drop_succ_cons
def Ob:=@Go.Proofs.Tryz.underlying4
def Oc:=@Go.IntKind.wrap_u64
def Od:=@Int.eq_ofNat_of_zero_le
def Oe:=@Nat.add_zero
def Of:=@Go.Proofs.Tryz.underlying247
def Og:=@Nat.div_div_eq_div_mul
def Oh:=@Array.getElem?_eq_none
def Oi:=@Go.Proofs.Tryz.zeroValue9
def Oj:=@Nat.min_eq_left
def Ol:=@Decidable.not_not
def Om:=@List.take_take
def On:=@List.nodup_nil
def Oo:=@Nat.mul_le_mul_right
def Oq:=@List.set_append_left
def Ot:=@List.pairwise_append
def Ou:=@List.Pairwise.filter
def Ov:=@List.getD_eq_getElem?_getD
def Ox:=@List.perm_middle
def Oy:=@List.map_toArray
def Oz:=@List.le_antisymm
def OB:=@List.mem_or_eq_of_mem_set
def OC:=@List.extract_eq_take_drop
def OD:=@Go.Lib.run_append_grow_zeros
def OE:=@Decidable.byContradiction
def OF:=@Array.toList_modify
def OG:=@Array.toList_append
def OH:=@Nat.add_assoc
def OI:=@Go.Proofs.Tryz.results159
def OJ:=@List.length_set
def OL:=@Go.Proofs.Tryz.underlying231
def OM:=@Array.any_eq_true'
def OO:=@List.getLast?_cons_cons
def OQ:=@Go.Proofs.Tryz.sizeOf9
def OR:=@List.lt_irrefl
def OS:=@List.drop_left
def OT:=@List.drop_drop
def OU:=@Go.DataW.trod_int
def OV:=@Array.toList_push
def OW:=@Option.map_eq_some_iff
def OX:=@ByteArray.data_extract
def OY:=@List.length_mergeSort
def OZ:=@List.length_filter_le
def O6:=@Go.Lib.wpList_append_run
def O7:=@Go.Proofs.Tryz.zeroValue38
def O8:=@Go.Proofs.Tryz.underlying0
def O9:=@Option.getD_none
def Pa:=@List.le_trans
def Pb:=@Go.Proofs.Tryz.isAgg9
def Pc:=@Nat.add_mul
def Pd:=@List.replicate_succ'
def Pe:=@List.mem_of_mem_take
def Pf:=@Array.toList_extract
def Pg:=@Or.inl
def Ph:=@Go.Proofs.Tryz.zeroValue0
def Pi:=@Go.Oper.semAt_some
def Pj:=@List.find?_cons
def Pl:=@Bool.or_eq_true
def Pm:=@Bool.eq_iff_iff
def Po:=@Go.Proofs.Tryz.results75
def Pp:=@Go.Proofs.Tryz.results62
def Pq:=@List.drop_take
def Pr:=@Go.Calls.quiet_of
def Pu:=@Go.Proofs.Tryz.underlying341
def Pv:=@Go.Proofs.Tryz.underlying293
def Pw:=@Go.Proofs.Tryz.underlying124
def Px:=@List.find?_eq_none
def Py:=@Bool.false_eq_true
def PA:=@Nat.le_succ
def PB:=@List.not_lt
def PC:=@Go.Proofs.Tryz.sizeOf38
def PD:=@List.take_add
def PE:=@Go.DataW.trod_lt
def PG:=@Nat.mod_lt
def PH:=@Option.map_some
