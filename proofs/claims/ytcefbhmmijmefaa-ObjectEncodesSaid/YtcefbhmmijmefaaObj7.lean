/- The walks of the layer 'object', its seventh part: an object's body, and the object of a body. Conditions: none. -/
import Derived.Test.YtcefbhmmijmefaaObj6
namespace Go.Proofs.Ytcefbhmmijmefaa
open Go.RowKit Go.Dol
set_option linter.unusedVariables false

set_option maxRecDepth 100000 in
set_option maxHeartbeats 1600000 in
theorem of1_calls (Ad : Option Addr) (nd cd : Nat) (Ae : Option Addr) (ne ce : Nat) (tr : ByteArray) (Ap : Option Addr) (np cp : Nat) (ta na wh : ByteArray) (st : Int) (te : ByteArray) (w : World) :
    Calls Try.prog 65 #[.agg #[.int .i64 1, .slice Ad nd cd, .slice Ae ne ce, .string tr, .slice Ap np cp, .string ta, .string na, .string wh, .int .i64 st, .string te]] w fun e w' => e = .returned (.iface 94 (.agg #[.slice Ad nd cd])) ∧ Below w.heap.size w w' := by
  have hb0 : Below w.heap.size w (w.alloc (.cells #[.int .i64 1, .slice Ad nd cd, .slice Ae ne ce, .string tr, .slice Ap np cp, .string ta, .string na, .string wh, .int .i64 st, .string te] 43)) := (Below.refl _ _).alloc (Nat.le_refl _) _
  have hb1 := hb0.alloc (B := w.heap.size) hb0.size (.cells #[.string wh, .int .i64 st, .string te] 98)
  go_enter Try.func65, Try.ntmps65
  go_wp2_with fail
  go_ret
  exact ⟨rfl, hb1⟩

set_option maxRecDepth 100000 in
set_option maxHeartbeats 1600000 in
theorem of2_calls (Ad : Option Addr) (nd cd : Nat) (Ae : Option Addr) (ne ce : Nat) (tr : ByteArray) (Ap : Option Addr) (np cp : Nat) (ta na wh : ByteArray) (st : Int) (te : ByteArray) (w : World) :
    Calls Try.prog 65 #[.agg #[.int .i64 2, .slice Ad nd cd, .slice Ae ne ce, .string tr, .slice Ap np cp, .string ta, .string na, .string wh, .int .i64 st, .string te]] w fun e w' => e = .returned (.iface 96 (.agg #[.slice Ae ne ce])) ∧ Below w.heap.size w w' := by
  have hb0 : Below w.heap.size w (w.alloc (.cells #[.int .i64 2, .slice Ad nd cd, .slice Ae ne ce, .string tr, .slice Ap np cp, .string ta, .string na, .string wh, .int .i64 st, .string te] 43)) := (Below.refl _ _).alloc (Nat.le_refl _) _
  have hb1 := hb0.alloc (B := w.heap.size) hb0.size (.cells #[.string wh, .int .i64 st, .string te] 98)
  go_enter Try.func65, Try.ntmps65
  go_wp2_with fail
  go_ret
  exact ⟨rfl, hb1⟩

set_option maxRecDepth 100000 in
set_option maxHeartbeats 1600000 in
theorem of3_calls (Ad : Option Addr) (nd cd : Nat) (Ae : Option Addr) (ne ce : Nat) (tr : ByteArray) (Ap : Option Addr) (np cp : Nat) (ta na wh : ByteArray) (st : Int) (te : ByteArray) (w : World) :
    Calls Try.prog 65 #[.agg #[.int .i64 3, .slice Ad nd cd, .slice Ae ne ce, .string tr, .slice Ap np cp, .string ta, .string na, .string wh, .int .i64 st, .string te]] w fun e w' => e = .returned (.iface 100 (.agg #[.string tr, .slice Ap np cp, .string wh, .int .i64 st, .string te])) ∧ Below w.heap.size w w' := by
  have hb0 : Below w.heap.size w (w.alloc (.cells #[.int .i64 3, .slice Ad nd cd, .slice Ae ne ce, .string tr, .slice Ap np cp, .string ta, .string na, .string wh, .int .i64 st, .string te] 43)) := (Below.refl _ _).alloc (Nat.le_refl _) _
  have hb1 := hb0.alloc (B := w.heap.size) hb0.size (.cells #[.string wh, .int .i64 st, .string te] 98)
  go_enter Try.func65, Try.ntmps65
  go_wp2_with fail
  go_ret
  exact ⟨rfl, hb1⟩

set_option maxRecDepth 100000 in
set_option maxHeartbeats 1600000 in
theorem of4_calls (Ad : Option Addr) (nd cd : Nat) (Ae : Option Addr) (ne ce : Nat) (tr : ByteArray) (Ap : Option Addr) (np cp : Nat) (ta na wh : ByteArray) (st : Int) (te : ByteArray) (w : World) :
    Calls Try.prog 65 #[.agg #[.int .i64 4, .slice Ad nd cd, .slice Ae ne ce, .string tr, .slice Ap np cp, .string ta, .string na, .string wh, .int .i64 st, .string te]] w fun e w' => e = .returned (.iface 102 (.agg #[.string ta, .string na, .string wh, .int .i64 st, .string te])) ∧ Below w.heap.size w w' := by
  have hb0 : Below w.heap.size w (w.alloc (.cells #[.int .i64 4, .slice Ad nd cd, .slice Ae ne ce, .string tr, .slice Ap np cp, .string ta, .string na, .string wh, .int .i64 st, .string te] 43)) := (Below.refl _ _).alloc (Nat.le_refl _) _
  have hb1 := hb0.alloc (B := w.heap.size) hb0.size (.cells #[.string wh, .int .i64 st, .string te] 98)
  go_enter Try.func65, Try.ntmps65
  go_wp2_with fail
  go_ret
  exact ⟨rfl, hb1⟩

set_option maxRecDepth 100000 in
set_option maxHeartbeats 1600000 in
theorem ofN_calls (Ad : Option Addr) (nd cd : Nat) (Ae : Option Addr) (ne ce : Nat) (tr : ByteArray) (Ap : Option Addr) (np cp : Nat) (ta na wh : ByteArray) (st : Int) (te : ByteArray) (w : World) (k : Int) (h1 : k ≠ 1) (h2 : k ≠ 2) (h3 : k ≠ 3) (h4 : k ≠ 4) :
    Calls Try.prog 65 #[.agg #[.int .i64 k, .slice Ad nd cd, .slice Ae ne ce, .string tr, .slice Ap np cp, .string ta, .string na, .string wh, .int .i64 st, .string te]] w fun e w' => e = .returned (.nilIface) ∧ Below w.heap.size w w' := by
  have hb0 : Below w.heap.size w (w.alloc (.cells #[.int .i64 k, .slice Ad nd cd, .slice Ae ne ce, .string tr, .slice Ap np cp, .string ta, .string na, .string wh, .int .i64 st, .string te] 43)) := (Below.refl _ _).alloc (Nat.le_refl _) _
  have hb1 := hb0.alloc (B := w.heap.size) hb0.size (.cells #[.string wh, .int .i64 st, .string te] 98)
  have d1 : (k == 1) = false := beq_eq_false_iff_ne.2 h1
  have d2 : (k == 2) = false := beq_eq_false_iff_ne.2 h2
  have d3 : (k == 3) = false := beq_eq_false_iff_ne.2 h3
  have d4 : (k == 4) = false := beq_eq_false_iff_ne.2 h4
  clear h1 h2 h3 h4
  go_enter Try.func65, Try.ntmps65
  go_wp2_with fail
  go_ret
  exact ⟨rfl, hb1⟩

theorem ta11 (xs : Array Value) (w : World) : (Instr.typeAssert (.iface 94 (.agg xs)) 77 94 true).run Try.prog w = .ok (.tuple #[.agg xs, .bool true]) w := by kernel_rfl
theorem ta21 (xs : Array Value) (w : World) : (Instr.typeAssert (.iface 96 (.agg xs)) 77 94 true).run Try.prog w = .ok (.tuple #[.agg #[.slice none 0 0], .bool false]) w := by kernel_rfl
theorem ta22 (xs : Array Value) (w : World) : (Instr.typeAssert (.iface 96 (.agg xs)) 77 96 true).run Try.prog w = .ok (.tuple #[.agg xs, .bool true]) w := by kernel_rfl
theorem ta31 (xs : Array Value) (w : World) : (Instr.typeAssert (.iface 100 (.agg xs)) 77 94 true).run Try.prog w = .ok (.tuple #[.agg #[.slice none 0 0], .bool false]) w := by kernel_rfl
theorem ta32 (xs : Array Value) (w : World) : (Instr.typeAssert (.iface 100 (.agg xs)) 77 96 true).run Try.prog w = .ok (.tuple #[.agg #[.slice none 0 0], .bool false]) w := by kernel_rfl
theorem ta33 (xs : Array Value) (w : World) : (Instr.typeAssert (.iface 100 (.agg xs)) 77 100 true).run Try.prog w = .ok (.tuple #[.agg xs, .bool true]) w := by kernel_rfl
theorem ta41 (xs : Array Value) (w : World) : (Instr.typeAssert (.iface 102 (.agg xs)) 77 94 true).run Try.prog w = .ok (.tuple #[.agg #[.slice none 0 0], .bool false]) w := by kernel_rfl
theorem ta42 (xs : Array Value) (w : World) : (Instr.typeAssert (.iface 102 (.agg xs)) 77 96 true).run Try.prog w = .ok (.tuple #[.agg #[.slice none 0 0], .bool false]) w := by kernel_rfl
theorem ta43 (xs : Array Value) (w : World) : (Instr.typeAssert (.iface 102 (.agg xs)) 77 100 true).run Try.prog w = .ok (.tuple #[.agg #[.string ⟨#[]⟩, .slice none 0 0, .string ⟨#[]⟩, .int .i64 0, .string ⟨#[]⟩], .bool false]) w := by kernel_rfl
theorem ta44 (xs : Array Value) (w : World) : (Instr.typeAssert (.iface 102 (.agg xs)) 77 102 true).run Try.prog w = .ok (.tuple #[.agg xs, .bool true]) w := by kernel_rfl
theorem taN1 (w : World) : (Instr.typeAssert .nilIface 77 94 true).run Try.prog w = .ok (.tuple #[.agg #[.slice none 0 0], .bool false]) w := by kernel_rfl
theorem taN2 (w : World) : (Instr.typeAssert .nilIface 77 96 true).run Try.prog w = .ok (.tuple #[.agg #[.slice none 0 0], .bool false]) w := by kernel_rfl
theorem taN3 (w : World) : (Instr.typeAssert .nilIface 77 100 true).run Try.prog w = .ok (.tuple #[.agg #[.string ⟨#[]⟩, .slice none 0 0, .string ⟨#[]⟩, .int .i64 0, .string ⟨#[]⟩], .bool false]) w := by kernel_rfl
theorem taN4 (w : World) : (Instr.typeAssert .nilIface 77 102 true).run Try.prog w = .ok (.tuple #[.agg #[.string ⟨#[]⟩, .string ⟨#[]⟩, .string ⟨#[]⟩, .int .i64 0, .string ⟨#[]⟩], .bool false]) w := by kernel_rfl

set_option maxRecDepth 100000 in
set_option maxHeartbeats 1600000 in
theorem made1_calls (Ad : Option Addr) (nd cd : Nat) (Ae : Option Addr) (ne ce : Nat) (tr : ByteArray) (Ap : Option Addr) (np cp : Nat) (ta na wh : ByteArray) (st : Int) (te : ByteArray) (w : World) :
    Calls Try.prog 59 #[.iface 94 (.agg #[.slice Ad nd cd])] w fun e w' => e = .returned (.agg #[.int .i64 1, .slice Ad nd cd, .slice none 0 0, .string ⟨#[]⟩, .slice none 0 0, .string ⟨#[]⟩, .string ⟨#[]⟩, .string ⟨#[]⟩, .int .i64 0, .string ⟨#[]⟩]) ∧ Below w.heap.size w w' := by
  have t1 := ta11 #[.slice Ad nd cd]
  go_enter Try.func59, Try.ntmps59
  go_wp2_with fail
  refine bodyPost_ret (v := .agg #[.int .i64 1, .slice Ad nd cd, .slice none 0 0, .string ⟨#[]⟩, .slice none 0 0, .string ⟨#[]⟩, .string ⟨#[]⟩, .string ⟨#[]⟩, .int .i64 0, .string ⟨#[]⟩]) (by simp [results, Try.results59, go_sem]) rfl ⟨rfl, ?_⟩
  first
    | exact ((Below.refl w.heap.size w).alloc (Nat.le_refl _) _).alloc (by simp) _
    | exact (((Below.refl w.heap.size w).alloc (Nat.le_refl _) _).alloc (by simp) _).setCell (by simp) _
    | (trace_state; fail)

set_option maxRecDepth 100000 in
set_option maxHeartbeats 1600000 in
theorem made2_calls (Ad : Option Addr) (nd cd : Nat) (Ae : Option Addr) (ne ce : Nat) (tr : ByteArray) (Ap : Option Addr) (np cp : Nat) (ta na wh : ByteArray) (st : Int) (te : ByteArray) (w : World) :
    Calls Try.prog 59 #[.iface 96 (.agg #[.slice Ae ne ce])] w fun e w' => e = .returned (.agg #[.int .i64 2, .slice none 0 0, .slice Ae ne ce, .string ⟨#[]⟩, .slice none 0 0, .string ⟨#[]⟩, .string ⟨#[]⟩, .string ⟨#[]⟩, .int .i64 0, .string ⟨#[]⟩]) ∧ Below w.heap.size w w' := by
  have t1 := ta21 #[.slice Ae ne ce]
  have t2 := ta22 #[.slice Ae ne ce]
  go_enter Try.func59, Try.ntmps59
  go_wp2_with fail
  refine bodyPost_ret (v := .agg #[.int .i64 2, .slice none 0 0, .slice Ae ne ce, .string ⟨#[]⟩, .slice none 0 0, .string ⟨#[]⟩, .string ⟨#[]⟩, .string ⟨#[]⟩, .int .i64 0, .string ⟨#[]⟩]) (by simp [results, Try.results59, go_sem]) rfl ⟨rfl, ?_⟩
  first
    | exact ((Below.refl w.heap.size w).alloc (Nat.le_refl _) _).alloc (by simp) _
    | exact (((Below.refl w.heap.size w).alloc (Nat.le_refl _) _).alloc (by simp) _).setCell (by simp) _
    | (trace_state; fail)

set_option maxRecDepth 100000 in
set_option maxHeartbeats 1600000 in
theorem made3_calls (Ad : Option Addr) (nd cd : Nat) (Ae : Option Addr) (ne ce : Nat) (tr : ByteArray) (Ap : Option Addr) (np cp : Nat) (ta na wh : ByteArray) (st : Int) (te : ByteArray) (w : World) :
    Calls Try.prog 59 #[.iface 100 (.agg #[.string tr, .slice Ap np cp, .string wh, .int .i64 st, .string te])] w fun e w' => e = .returned (.agg #[.int .i64 3, .slice none 0 0, .slice none 0 0, .string tr, .slice Ap np cp, .string ⟨#[]⟩, .string ⟨#[]⟩, .string wh, .int .i64 st, .string te]) ∧ Below w.heap.size w w' := by
  have t1 := ta31 #[.string tr, .slice Ap np cp, .string wh, .int .i64 st, .string te]
  have t2 := ta32 #[.string tr, .slice Ap np cp, .string wh, .int .i64 st, .string te]
  have t3 := ta33 #[.string tr, .slice Ap np cp, .string wh, .int .i64 st, .string te]
  go_enter Try.func59, Try.ntmps59
  go_wp2_with fail
  refine bodyPost_ret (v := .agg #[.int .i64 3, .slice none 0 0, .slice none 0 0, .string tr, .slice Ap np cp, .string ⟨#[]⟩, .string ⟨#[]⟩, .string wh, .int .i64 st, .string te]) (by simp [results, Try.results59, go_sem]) rfl ⟨rfl, ?_⟩
  first
    | exact ((Below.refl w.heap.size w).alloc (Nat.le_refl _) _).alloc (by simp) _
    | exact (((Below.refl w.heap.size w).alloc (Nat.le_refl _) _).alloc (by simp) _).setCell (by simp) _
    | (trace_state; fail)

set_option maxRecDepth 100000 in
set_option maxHeartbeats 1600000 in
theorem made4_calls (Ad : Option Addr) (nd cd : Nat) (Ae : Option Addr) (ne ce : Nat) (tr : ByteArray) (Ap : Option Addr) (np cp : Nat) (ta na wh : ByteArray) (st : Int) (te : ByteArray) (w : World) :
    Calls Try.prog 59 #[.iface 102 (.agg #[.string ta, .string na, .string wh, .int .i64 st, .string te])] w fun e w' => e = .returned (.agg #[.int .i64 4, .slice none 0 0, .slice none 0 0, .string ⟨#[]⟩, .slice none 0 0, .string ta, .string na, .string wh, .int .i64 st, .string te]) ∧ Below w.heap.size w w' := by
  have t1 := ta41 #[.string ta, .string na, .string wh, .int .i64 st, .string te]
  have t2 := ta42 #[.string ta, .string na, .string wh, .int .i64 st, .string te]
  have t3 := ta43 #[.string ta, .string na, .string wh, .int .i64 st, .string te]
  have t4 := ta44 #[.string ta, .string na, .string wh, .int .i64 st, .string te]
  go_enter Try.func59, Try.ntmps59
  go_wp2_with fail
  refine bodyPost_ret (v := .agg #[.int .i64 4, .slice none 0 0, .slice none 0 0, .string ⟨#[]⟩, .slice none 0 0, .string ta, .string na, .string wh, .int .i64 st, .string te]) (by simp [results, Try.results59, go_sem]) rfl ⟨rfl, ?_⟩
  first
    | exact ((Below.refl w.heap.size w).alloc (Nat.le_refl _) _).alloc (by simp) _
    | exact (((Below.refl w.heap.size w).alloc (Nat.le_refl _) _).alloc (by simp) _).setCell (by simp) _
    | (trace_state; fail)

set_option maxRecDepth 100000 in
set_option maxHeartbeats 1600000 in
theorem madeN_calls (w : World) :
    Calls Try.prog 59 #[.nilIface] w fun e w' => e = .returned (.agg #[.int .i64 0, .slice none 0 0, .slice none 0 0, .string ⟨#[]⟩, .slice none 0 0, .string ⟨#[]⟩, .string ⟨#[]⟩, .string ⟨#[]⟩, .int .i64 0, .string ⟨#[]⟩]) ∧ Below w.heap.size w w' := by
  have t1 := taN1
  have t2 := taN2
  have t3 := taN3
  have t4 := taN4
  go_enter Try.func59, Try.ntmps59
  go_wp2_with fail
  refine bodyPost_ret (v := .agg #[.int .i64 0, .slice none 0 0, .slice none 0 0, .string ⟨#[]⟩, .slice none 0 0, .string ⟨#[]⟩, .string ⟨#[]⟩, .string ⟨#[]⟩, .int .i64 0, .string ⟨#[]⟩]) (by simp [results, Try.results59, go_sem]) rfl ⟨rfl, ?_⟩
  first
    | exact (Below.refl w.heap.size w).alloc (Nat.le_refl _) _
    | (trace_state; fail)

end Go.Proofs.Ytcefbhmmijmefaa
