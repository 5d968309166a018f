/- The walk of the law PressOpens. Conditions: the form's reach. -/
import Derived.Test.YtjikoeokmdnciaaPressAwake
namespace Go.Proofs.Ytjikoeokmdnciaa
open Go.RowKit Go.Dol
set_option linter.unusedVariables false

set_option maxRecDepth 100000 in
set_option maxHeartbeats 400000 in
theorem pressOpens_walk (A : Option Addr) (l : List UInt8) (c : Nat) (most : Int) (w : World) (hr : Rd w w.heap.size 1 A l.length (bc l)) (hc : l.length ≤ c) (hmx : c ≤ maxLen) (hl : l.length ≤ 140737488351232)
    (hm : (Lit.int .i64 most).wf = true) :
    Calls Try.prog 6 #[.slice A l.length c, .int .i64 most] w fun e w' => e = .returned (.bool true) ∧ Below w.heap.size w w' := by
  clear hm
  go_enter Try.func6, Try.ntmps6
  go_wp2_with fail
  refine (awake_calls w).mono ?_
  rintro e w0 ⟨rfl, hb0⟩
  have s0 := hb0.size
  have r0 := (hr.below hb0).more s0
  by_cases hlt : most ≤ 4194304
  · have d2 : decide (most ≤ 4194304) = true := by simp; omega
    cases hT : openL l most with
    | none =>
      have HT := Lib.hid hT
      clear hT
      go_wp2_with fail
      refine (Open_calls A l c most w0 r0 (by omega) hc (by omega)).mono ?_
      intro e w1 h1
      rw [HT.out] at h1
      obtain ⟨rfl, hb1⟩ := h1
      have s1 := hb1.size
      have r1 := (r0.below hb1).more s1
      go_wp2_with fail
      refine (refOpen_calls A l c most w1 r1 (by omega) hc (by omega)).mono ?_
      intro e w2 h2
      rw [HT.out] at h2
      obtain ⟨rfl, hb2⟩ := h2
      go_wp2_with fail
      refine (Same_n none [] 0 0 none [] 0 0 w2 0 0 Rd.nil Rd.nil rfl).mono ?_
      rintro e w3 ⟨rfl, rfl⟩
      go_wp2_with fail
      go_ret
      exact ⟨rfl, (hb0.next hb1).next hb2⟩
    | some q =>
      have HT := Lib.hid hT
      clear hT
      go_wp2_with fail
      refine (Open_calls A l c most w0 r0 (by omega) hc (by omega)).mono ?_
      intro e w1 h1
      rw [HT.out] at h1
      obtain ⟨q1, A1, c1, e1, rfl, hr1, hb1, i1, i2⟩ := h1
      have s1 := hb1.size
      have r1 := (r0.below hb1).more s1
      go_wp2_with fail
      refine (refOpen_calls A l c most w1 r1 (by omega) hc (by omega)).mono ?_
      intro e w2 h2
      rw [HT.out] at h2
      obtain ⟨q2, A2, c2, e2, rfl, hr2, hb2, i3, i4⟩ := h2
      go_wp2_with fail
      refine (Same_n A1 q1 q1.length c1 A2 q2 q2.length c2 w2 w1.heap.size w2.heap.size (hr1.below hb2) hr2 (by unfold Hid; rw [e1.out, e2.out])).mono ?_
      rintro e w3 ⟨rfl, rfl⟩
      go_wp2_with fail
      go_ret
      exact ⟨rfl, (hb0.next hb1).next hb2⟩
  · have d2 : decide (most ≤ 4194304) = false := by simp; omega
    cases hT : openL l 4194304 with
    | none =>
      have HT := Lib.hid hT
      clear hT
      go_wp2_with fail
      refine (Open_calls A l c 4194304 w0 r0 (by omega) hc (by omega)).mono ?_
      intro e w1 h1
      rw [HT.out] at h1
      obtain ⟨rfl, hb1⟩ := h1
      have s1 := hb1.size
      have r1 := (r0.below hb1).more s1
      go_wp2_with fail
      refine (refOpen_calls A l c 4194304 w1 r1 (by omega) hc (by omega)).mono ?_
      intro e w2 h2
      rw [HT.out] at h2
      obtain ⟨rfl, hb2⟩ := h2
      go_wp2_with fail
      refine (Same_n none [] 0 0 none [] 0 0 w2 0 0 Rd.nil Rd.nil rfl).mono ?_
      rintro e w3 ⟨rfl, rfl⟩
      go_wp2_with fail
      go_ret
      exact ⟨rfl, (hb0.next hb1).next hb2⟩
    | some q =>
      have HT := Lib.hid hT
      clear hT
      go_wp2_with fail
      refine (Open_calls A l c 4194304 w0 r0 (by omega) hc (by omega)).mono ?_
      intro e w1 h1
      rw [HT.out] at h1
      obtain ⟨q1, A1, c1, e1, rfl, hr1, hb1, i1, i2⟩ := h1
      have s1 := hb1.size
      have r1 := (r0.below hb1).more s1
      go_wp2_with fail
      refine (refOpen_calls A l c 4194304 w1 r1 (by omega) hc (by omega)).mono ?_
      intro e w2 h2
      rw [HT.out] at h2
      obtain ⟨q2, A2, c2, e2, rfl, hr2, hb2, i3, i4⟩ := h2
      go_wp2_with fail
      refine (Same_n A1 q1 q1.length c1 A2 q2 q2.length c2 w2 w1.heap.size w2.heap.size (hr1.below hb2) hr2 (by unfold Hid; rw [e1.out, e2.out])).mono ?_
      rintro e w3 ⟨rfl, rfl⟩
      go_wp2_with fail
      go_ret
      exact ⟨rfl, (hb0.next hb1).next hb2⟩
end Go.Proofs.Ytjikoeokmdnciaa
