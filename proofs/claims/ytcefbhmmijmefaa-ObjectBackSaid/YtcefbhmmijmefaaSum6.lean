/- The walks of the layer 'sum', its sixth part: the hash of bytes. Conditions: bytes that are made fit 2^47. -/
import Derived.Test.YtcefbhmmijmefaaSum5
namespace Go.Proofs.Ytcefbhmmijmefaa
open Go.RowKit Go.Dol
set_option linter.unusedVariables false

set_option maxRecDepth 100000 in
set_option maxHeartbeats 400000 in
theorem Sum_calls (A : Option Addr) (l : List UInt8) (c : Nat) (w : World) (hr : Rd w w.heap.size 1 A l.length (bc l)) (hl : l.length ≤ 140737488355296) :
    Calls Try.prog 29 #[.slice A l.length c] w fun e w' => ∃ l', Hid (l' = sumOf l) ∧ e = .returned (.string ⟨l'.toArray⟩) ∧ Below w.heap.size w w' := by
  go_enter Try.func29, Try.ntmps29
  go_wp2_with fail
  refine (New_calls w).mono ?_
  rintro e w1 ⟨g, rfl, hg, hrun, hb1⟩
  go_wp2_with fail
  refine (Add_calls g w.heap.size [] A l c w1 hrun hg (hr.below hb1) hl (by simp)).mono ?_
  rintro e w2 ⟨rfl, hrun2, hb2⟩
  rw [List.nil_append] at hrun2
  go_wp2_with fail
  refine (End_calls g w.heap.size l w2 hrun2 (by omega)).mono ?_
  rintro e w3 ⟨l', hl', rfl, hb3⟩
  go_wp2_with fail
  go_ret
  exact ⟨l', hl', rfl, (hb1.trans hb2).trans (hb3.mono (hb1.trans hb2).size)⟩
end Go.Proofs.Ytcefbhmmijmefaa
