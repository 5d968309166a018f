/- The walk of the law PressPresses. Conditions: lengths below 2^20. -/
import Derived.Test.YtjikoeokmdnciaaPressAwake
namespace Go.Proofs.Ytjikoeokmdnciaa
open Go.RowKit Go.Dol
set_option linter.unusedVariables false

set_option maxRecDepth 100000 in
set_option maxHeartbeats 400000 in
theorem pressPresses_walk (A : Option Addr) (l : List UInt8) (c : Nat) (w : World) (hr : Rd w w.heap.size 1 A l.length (bc l)) (hc : l.length ≤ c) (hmx : c ≤ maxLen) (hl : l.length ≤ 1048576) :
    Calls Try.prog 5 #[.slice A l.length c] w fun e w' => e = .returned (.bool true) ∧ Below w.heap.size w w' := by
  go_enter Try.func5, Try.ntmps5
  go_wp2_with fail
  refine (awake_calls w).mono ?_
  rintro e w0 ⟨rfl, hb0⟩
  have s0 := hb0.size
  have r0 := (hr.below hb0).more s0
  go_wp2_with fail
  refine (Press_calls A l c w0 r0 hl hc).mono ?_
  rintro e w1 ⟨q1, A1, c1, e1, rfl, hr1, hb1, i1, i2⟩
  have s1 := hb1.size
  have r1 := (r0.below hb1).more s1
  go_wp2_with fail
  refine (refPress_calls A l c w1 r1 hl hc).mono ?_
  rintro e w2 ⟨q2, A2, c2, e2, rfl, hr2, hb2, i3, i4⟩
  go_wp2_with fail
  refine (Same_n A1 q1 q1.length c1 A2 q2 q2.length c2 w2 w1.heap.size w2.heap.size (hr1.below hb2) hr2 (by unfold Hid; rw [e1.out, e2.out])).mono ?_
  rintro e w3 ⟨rfl, rfl⟩
  go_wp2_with fail
  go_ret
  exact ⟨rfl, (hb0.next hb1).next hb2⟩
end Go.Proofs.Ytjikoeokmdnciaa
