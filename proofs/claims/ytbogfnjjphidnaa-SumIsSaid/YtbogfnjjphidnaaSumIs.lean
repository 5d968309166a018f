/- The walk of the law SumIs. Conditions: the form's reach. -/
import Derived.Test.YtbogfnjjphidnaaSumAwake
import Derived.Test.YtbogfnjjphidnaaSum15
namespace Go.Proofs.Ytbogfnjjphidnaa
open Go.RowKit Go.Dol
set_option linter.unusedVariables false

set_option maxRecDepth 100000 in
set_option maxHeartbeats 400000 in
theorem sumIs_walk (A : Option Addr) (l : List UInt8) (c : Nat) (w : World) (hr : Rd w w.heap.size 1 A l.length (bc l)) (hc : l.length ≤ c) (hm : c ≤ maxLen) (hn : l.length ≤ 140737488351232) :
    Calls Try.prog 3 #[.slice A l.length c] w fun e w' => e = .returned (.bool true) ∧ Below w.heap.size w w' := by
  obtain ⟨x, hx⟩ : ∃ x, x = sumOf l := ⟨_, rfl⟩
  have hxl : x.length = 32 := by rw [hx]; exact sumOf_length l
  have HX := Lib.hid hx
  clear hx
  go_enter Try.func3, Try.ntmps3
  go_wp2_with fail
  refine (awake_calls w).mono ?_
  rintro e w0 ⟨rfl, hb0⟩
  go_wp2_with fail
  refine (Sum_calls A l c w0 (hr.belowW hb0 (Nat.le_refl _) |>.more hb0.size) (by omega)).mono ?_
  rintro e w1 ⟨l1, e1, rfl, hb1⟩
  rw [e1.out, ← HX.out]
  go_wp2_with fail
  refine (refSum_calls A l c w1 (((hr.belowW hb0 (Nat.le_refl _)).more hb0.size).belowW hb1 (Nat.le_refl _) |>.more hb1.size) (by omega)).mono ?_
  rintro e w2 ⟨l2, e2, rfl, hb2⟩
  rw [e2.out, ← HX.out]
  have hb01 := hb0.trans (hb1.mono hb0.size)
  go_wp2_with fail
  go_ret
  exact ⟨rfl, hb01.trans (hb2.mono hb01.size)⟩
end Go.Proofs.Ytbogfnjjphidnaa
