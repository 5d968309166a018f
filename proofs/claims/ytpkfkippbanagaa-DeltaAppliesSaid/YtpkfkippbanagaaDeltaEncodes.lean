/- The walks of the laws DeltaEncodes and DeltaApplies. Conditions: lengths below 2^20; the form's reach. -/
import Derived.Test.YtpkfkippbanagaaDeltaAwake
namespace Go.Proofs.Ytpkfkippbanagaa
open Go.RowKit Go.Dol
set_option linter.unusedVariables false

set_option maxRecDepth 100000 in
set_option maxHeartbeats 400000 in
theorem deltaEncodes_walk (A : Option Addr) (b : List UInt8) (c : Nat) (A2 : Option Addr) (t : List UInt8) (c2 : Nat) (w : World) (hr : Rd w w.heap.size 1 A b.length (bc b)) (hc : b.length ≤ c) (hm : c ≤ maxLen) (hn : b.length ≤ 1048576)
    (hr2 : Rd w w.heap.size 1 A2 t.length (bc t)) (hc2 : t.length ≤ c2) (hm2 : c2 ≤ maxLen) (hn2 : t.length ≤ 1048576) :
    Calls Try.prog 5 #[.slice A b.length c, .slice A2 t.length c2] w fun e w' => e = .returned (.bool true) ∧ Below w.heap.size w w' := by
  go_enter Try.func5, Try.ntmps5
  go_wp2_with fail
  refine (awake_calls w).mono ?_
  rintro e w0 ⟨rfl, hb0⟩
  have r0 := hr.alive hb0
  have r02 := hr2.alive hb0
  go_wp2_with fail
  refine (Encode_calls A b c A2 t c2 w0 r0 r02 hn hn2 hc hm hc2 hm2).mono ?_
  rintro e w1 ⟨q1, A1, c1, e1, rfl, hr1, hb1, i1, i2⟩
  go_wp2_with fail
  refine (refEncode_calls A b c A2 t c2 w1 (r0.alive hb1) (r02.alive hb1) hn hn2 hc hm hc2 hm2).mono ?_
  rintro e w2 ⟨q2, A2', c2', e2, rfl, hr3, hb2, i3, i4⟩
  go_wp2_with fail
  refine (Same_n A1 q1 q1.length c1 A2' q2 q2.length c2' w2 w1.heap.size w2.heap.size (hr1.below hb2) hr3 (by unfold Hid; rw [e1.out, e2.out])).mono ?_
  rintro e w3 ⟨rfl, rfl⟩
  go_wp2_with fail
  go_ret
  exact ⟨rfl, (hb0.next hb1).next hb2⟩

set_option maxRecDepth 100000 in
set_option maxHeartbeats 800000 in
theorem deltaApplies_walk (A : Option Addr) (b : List UInt8) (c : Nat) (A2 : Option Addr) (d : List UInt8) (c2 : Nat) (most : Int) (w : World) (hr : Rd w w.heap.size 1 A b.length (bc b)) (hc : b.length ≤ c) (hm : c ≤ maxLen) (hn : b.length ≤ 140737488351232)
    (hr2 : Rd w w.heap.size 1 A2 d.length (bc d)) (hc2 : d.length ≤ c2) (hm2 : c2 ≤ maxLen) (hn2 : d.length ≤ 140737488351232) (hwf : (Lit.int .i64 most).wf = true) :
    Calls Try.prog 6 #[.slice A b.length c, .slice A2 d.length c2, .int .i64 most] w fun e w' => e = .returned (.bool true) ∧ Below w.heap.size w w' := by
  clear hwf
  obtain ⟨m, hm', hmm⟩ : ∃ m : Int, m ≤ 4194304 ∧ ∀ w : World, (Builtin.min_ #[3, 3] 3 #[.int .i64 most, .int .i64 4194304]).run Try.prog w = .ok (.int .i64 m) w := by
    by_cases hlt : most ≤ 4194304
    · exact ⟨most, hlt, fun w => by simp [go_sem]; omega⟩
    · exact ⟨4194304, Int.le_refl _, fun w => by simp [go_sem, hlt]⟩
  go_enter Try.func6, Try.ntmps6
  go_wp2_with fail
  refine (awake_calls w).mono ?_
  rintro e w0 ⟨rfl, hb0⟩
  have r0 := hr.alive hb0
  have r02 := hr2.alive hb0
  cases hT : applyL b d m with
  | none =>
    have HT := Lib.hid hT
    clear hT
    go_wp2_with fail
    refine (Apply_calls A b c A2 d c2 m w0 r0 (by omega) hc hm r02 (by omega) hc2 (by omega)).mono ?_
    intro e w1 h1
    rw [HT.out] at h1
    obtain ⟨rfl, hb1⟩ := h1
    go_wp2_with fail
    refine (refApply_calls A b c A2 d c2 m w1 (r0.alive hb1) (by omega) hc (r02.alive hb1) (by omega) hc2 (by omega)).mono ?_
    intro e w2 h2
    rw [HT.out] at h2
    obtain ⟨rfl, hb2⟩ := h2
    go_wp2_with fail
    refine (Same_n none [] 0 0 none [] 0 0 w2 0 0 Rd.nil Rd.nil rfl).mono ?_
    rintro e w3 ⟨rfl, rfl⟩
    go_wp2_with fail
    go_ret
    exact ⟨rfl, (hb0.next hb1).next hb2⟩
  | some q =>
    have HT := Lib.hid hT
    clear hT
    go_wp2_with fail
    refine (Apply_calls A b c A2 d c2 m w0 r0 (by omega) hc hm r02 (by omega) hc2 (by omega)).mono ?_
    intro e w1 h1
    rw [HT.out] at h1
    obtain ⟨q1, A1, c1, e1, rfl, hr1, hb1, i1, i2⟩ := h1
    go_wp2_with fail
    refine (refApply_calls A b c A2 d c2 m w1 (r0.alive hb1) (by omega) hc (r02.alive hb1) (by omega) hc2 (by omega)).mono ?_
    intro e w2 h2
    rw [HT.out] at h2
    obtain ⟨q2, A2', c2', e2, rfl, hr3, hb2, i3, i4⟩ := h2
    go_wp2_with fail
    refine (Same_n A1 q1 q1.length c1 A2' q2 q2.length c2' w2 w1.heap.size w2.heap.size (hr1.below hb2) hr3 (by unfold Hid; rw [e1.out, e2.out])).mono ?_
    rintro e w3 ⟨rfl, rfl⟩
    go_wp2_with fail
    go_ret
    exact ⟨rfl, (hb0.next hb1).next hb2⟩
end Go.Proofs.Ytpkfkippbanagaa
