/- The walk of the law CodeTakes. Conditions: the form's reach. -/
import Derived.Test.YtibcehdehhffjaaCodeN
namespace Go.Proofs.Ytibcehdehhffjaa
open Go.RowKit Go.Dol
set_option linter.unusedVariables false


set_option maxRecDepth 100000 in
set_option maxHeartbeats 400000 in
theorem codeTakes_walk (A : Option Addr) (l : List UInt8) (c : Nat) (most : Int) (w : World) (hr : Rd w w.heap.size 1 A l.length (bc l)) (hc : l.length ≤ c) (hmx : c ≤ maxLen) (hl : l.length ≤ 140737488351232)
    (hm : (Lit.int .i64 most).wf = true) :
    Calls Try.prog 7 #[.slice A l.length c, .int .i64 most] w fun e w' => e = .returned (.bool true) ∧ Below w.heap.size w w' := by
  clear hm
  cases hT : takeNum l with
  | none =>
    have HX : Hid (takeText l most = none) := by unfold Hid takeText; rw [hT]
    have HT := Lib.hid hT
    clear hT
    go_enter Try.func7, Try.ntmps7
    go_wp2_with fail
    refine (awake_calls w).mono ?_
    rintro e w0 ⟨rfl, hb0⟩
    have s0 := hb0.size
    have r0 := (hr.below hb0).more s0
    go_wp2_with fail
    with_reducible refine (TakeNum_calls A l c w0 r0 (by omega) hc).mono ?_
    intro e w1 h1
    rw [HT.out] at h1
    obtain ⟨rfl, hb1⟩ := h1
    have s1 := hb1.size
    have r1 := (r0.below hb1).more s1
    go_wp2_with fail
    with_reducible refine (RefTakeNum_calls A l c w1 r1 (by omega) hc).mono ?_
    intro e w2 h2
    rw [HT.out] at h2
    obtain ⟨rfl, hb2⟩ := h2
    have s2 := hb2.size
    have r2 := (r1.below hb2).more s2
    go_wp2_with fail
    with_reducible refine (TakeText_calls A l c most w2 r2 (by omega) hc).mono ?_
    intro e w3 h3
    rw [HX.out] at h3
    obtain ⟨rfl, hb3⟩ := h3
    have s3 := hb3.size
    have r3 := (r2.below hb3).more s3
    go_wp2_with fail
    with_reducible refine (RefTakeText_calls A l c most w3 r3 (by omega) hc).mono ?_
    intro e w4 h4
    rw [HX.out] at h4
    obtain ⟨rfl, hb4⟩ := h4
    have s4 := hb4.size
    have r4 := (r3.below hb4).more s4
    go_wp2_with fail
    with_reducible refine (TakeInt_calls A l c w4 r4 (by omega) hc).mono ?_
    intro e w5 h5
    rw [HT.out] at h5
    obtain ⟨rfl, hb5⟩ := h5
    have s5 := hb5.size
    have r5 := (r4.below hb5).more s5
    go_wp2_with fail
    with_reducible refine (RefTakeInt_calls A l c w5 r5 (by omega) hc).mono ?_
    intro e w6 h6
    rw [HT.out] at h6
    obtain ⟨rfl, hb6⟩ := h6
    have s6 := hb6.size
    go_wp2_with fail
    refine (Same_n none [] 0 0 none [] 0 0 w6 0 0 Rd.nil Rd.nil rfl).mono ?_
    rintro e w6' ⟨rfl, rfl⟩
    go_wp2_with fail
    refine (Same_n none [] 0 0 none [] 0 0 w6 0 0 Rd.nil Rd.nil rfl).mono ?_
    rintro e w6' ⟨rfl, rfl⟩
    go_wp2_with fail
    refine (Same_n none [] 0 0 none [] 0 0 w6 0 0 Rd.nil Rd.nil rfl).mono ?_
    rintro e w6' ⟨rfl, rfl⟩
    go_wp2_with fail
    go_ret
    exact ⟨rfl, (((((hb0.trans (hb1.mono s0)).trans (hb2.mono (by omega))).trans (hb3.mono (by omega))).trans (hb4.mono (by omega))).trans (hb5.mono (by omega))).trans (hb6.mono (by omega))⟩
  | some p =>
    obtain ⟨n, q⟩ := p
    have HT := Lib.hid hT
    clear hT
    cases hX : takeText l most with
    | none =>
      have HX := Lib.hid hX
      clear hX
      go_enter Try.func7, Try.ntmps7
      go_wp2_with fail
      refine (awake_calls w).mono ?_
      rintro e w0 ⟨rfl, hb0⟩
      have s0 := hb0.size
      have r0 := (hr.below hb0).more s0
      go_wp2_with fail
      with_reducible refine (TakeNum_calls A l c w0 r0 (by omega) hc).mono ?_
      intro e w1 h1
      rw [HT.out] at h1
      obtain ⟨q1, A1, c1, e1, rfl, o1, hb1, i1, j1⟩ := h1
      have s1 := hb1.size
      have r1 := (r0.below hb1).more s1
      have o1 := Rd.of_own o1
      go_wp2_with fail
      with_reducible refine (RefTakeNum_calls A l c w1 r1 (by omega) hc).mono ?_
      intro e w2 h2
      rw [HT.out] at h2
      obtain ⟨q2, A2, c2, e2, rfl, o2, hb2, i2, j2⟩ := h2
      have s2 := hb2.size
      have r2 := (r1.below hb2).more s2
      have o2 := Rd.of_own o2
      have o1 := (o1.below hb2).more s2
      go_wp2_with fail
      with_reducible refine (TakeText_calls A l c most w2 r2 (by omega) hc).mono ?_
      intro e w3 h3
      rw [HX.out] at h3
      obtain ⟨rfl, hb3⟩ := h3
      have s3 := hb3.size
      have r3 := (r2.below hb3).more s3
      have o1 := (o1.below hb3).more s3
      have o2 := (o2.below hb3).more s3
      go_wp2_with fail
      with_reducible refine (RefTakeText_calls A l c most w3 r3 (by omega) hc).mono ?_
      intro e w4 h4
      rw [HX.out] at h4
      obtain ⟨rfl, hb4⟩ := h4
      have s4 := hb4.size
      have r4 := (r3.below hb4).more s4
      have o1 := (o1.below hb4).more s4
      have o2 := (o2.below hb4).more s4
      go_wp2_with fail
      with_reducible refine (TakeInt_calls A l c w4 r4 (by omega) hc).mono ?_
      intro e w5 h5
      rw [HT.out] at h5
      obtain ⟨q5, A5, c5, e5, rfl, o5, hb5, i5, j5⟩ := h5
      have s5 := hb5.size
      have r5 := (r4.below hb5).more s5
      have o1 := (o1.below hb5).more s5
      have o2 := (o2.below hb5).more s5
      have o5 := Rd.of_own o5
      go_wp2_with fail
      with_reducible refine (RefTakeInt_calls A l c w5 r5 (by omega) hc).mono ?_
      intro e w6 h6
      rw [HT.out] at h6
      obtain ⟨q6, A6, c6, e6, rfl, o6, hb6, i6, j6⟩ := h6
      have s6 := hb6.size
      have o1 := (o1.below hb6).more s6
      have o2 := (o2.below hb6).more s6
      have o5 := (o5.below hb6).more s6
      have o6 := Rd.of_own o6
      go_wp2_with fail
      with_reducible refine (Same_n A1 q1 _ c1 A2 q2 _ c2 w6 _ _ o1 o2 (by unfold Hid at *; rw [e1, e2])).mono ?_
      rintro e w6' ⟨rfl, rfl⟩
      go_wp2_with fail
      refine (Same_n none [] 0 0 none [] 0 0 w6 0 0 Rd.nil Rd.nil rfl).mono ?_
      rintro e w6' ⟨rfl, rfl⟩
      go_wp2_with fail
      with_reducible refine (Same_n A5 q5 _ c5 A6 q6 _ c6 w6 _ _ o5 o6 (by unfold Hid at *; rw [e5, e6])).mono ?_
      rintro e w6' ⟨rfl, rfl⟩
      go_wp2_with fail
      go_ret
      exact ⟨rfl, (((((hb0.trans (hb1.mono s0)).trans (hb2.mono (by omega))).trans (hb3.mono (by omega))).trans (hb4.mono (by omega))).trans (hb5.mono (by omega))).trans (hb6.mono (by omega))⟩
    | some p2 =>
      obtain ⟨s, x⟩ := p2
      have HX := Lib.hid hX
      clear hX
      go_enter Try.func7, Try.ntmps7
      go_wp2_with fail
      refine (awake_calls w).mono ?_
      rintro e w0 ⟨rfl, hb0⟩
      have s0 := hb0.size
      have r0 := (hr.below hb0).more s0
      go_wp2_with fail
      with_reducible refine (TakeNum_calls A l c w0 r0 (by omega) hc).mono ?_
      intro e w1 h1
      rw [HT.out] at h1
      obtain ⟨q1, A1, c1, e1, rfl, o1, hb1, i1, j1⟩ := h1
      have s1 := hb1.size
      have r1 := (r0.below hb1).more s1
      have o1 := Rd.of_own o1
      go_wp2_with fail
      with_reducible refine (RefTakeNum_calls A l c w1 r1 (by omega) hc).mono ?_
      intro e w2 h2
      rw [HT.out] at h2
      obtain ⟨q2, A2, c2, e2, rfl, o2, hb2, i2, j2⟩ := h2
      have s2 := hb2.size
      have r2 := (r1.below hb2).more s2
      have o2 := Rd.of_own o2
      have o1 := (o1.below hb2).more s2
      go_wp2_with fail
      with_reducible refine (TakeText_calls A l c most w2 r2 (by omega) hc).mono ?_
      intro e w3 h3
      rw [HX.out] at h3
      obtain ⟨q3, A3, c3, e3, rfl, o3, hb3, i3, j3⟩ := h3
      have s3 := hb3.size
      have r3 := (r2.below hb3).more s3
      have o1 := (o1.below hb3).more s3
      have o2 := (o2.below hb3).more s3
      go_wp2_with fail
      with_reducible refine (RefTakeText_calls A l c most w3 r3 (by omega) hc).mono ?_
      intro e w4 h4
      rw [HX.out] at h4
      obtain ⟨q4, A4, c4, e4, rfl, o4, hb4, i4, j4⟩ := h4
      have s4 := hb4.size
      have r4 := (r3.below hb4).more s4
      have o1 := (o1.below hb4).more s4
      have o2 := (o2.below hb4).more s4
      have o3 := (o3.below hb4).more s4
      go_wp2_with fail
      with_reducible refine (TakeInt_calls A l c w4 r4 (by omega) hc).mono ?_
      intro e w5 h5
      rw [HT.out] at h5
      obtain ⟨q5, A5, c5, e5, rfl, o5, hb5, i5, j5⟩ := h5
      have s5 := hb5.size
      have r5 := (r4.below hb5).more s5
      have o1 := (o1.below hb5).more s5
      have o2 := (o2.below hb5).more s5
      have o3 := (o3.below hb5).more s5
      have o4 := (o4.below hb5).more s5
      have o5 := Rd.of_own o5
      go_wp2_with fail
      with_reducible refine (RefTakeInt_calls A l c w5 r5 (by omega) hc).mono ?_
      intro e w6 h6
      rw [HT.out] at h6
      obtain ⟨q6, A6, c6, e6, rfl, o6, hb6, i6, j6⟩ := h6
      have s6 := hb6.size
      have o1 := (o1.below hb6).more s6
      have o2 := (o2.below hb6).more s6
      have o3 := (o3.below hb6).more s6
      have o4 := (o4.below hb6).more s6
      have o5 := (o5.below hb6).more s6
      have o6 := Rd.of_own o6
      go_wp2_with fail
      with_reducible refine (Same_n A1 q1 _ c1 A2 q2 _ c2 w6 _ _ o1 o2 (by unfold Hid at *; rw [e1, e2])).mono ?_
      rintro e w6' ⟨rfl, rfl⟩
      go_wp2_with fail
      with_reducible refine (Same_n A3 q3 _ c3 A4 q4 _ c4 w6 _ _ o3 o4 (by unfold Hid at *; rw [e3, e4])).mono ?_
      rintro e w6' ⟨rfl, rfl⟩
      go_wp2_with fail
      with_reducible refine (Same_n A5 q5 _ c5 A6 q6 _ c6 w6 _ _ o5 o6 (by unfold Hid at *; rw [e5, e6])).mono ?_
      rintro e w6' ⟨rfl, rfl⟩
      go_wp2_with fail
      go_ret
      exact ⟨rfl, (((((hb0.trans (hb1.mono s0)).trans (hb2.mono (by omega))).trans (hb3.mono (by omega))).trans (hb4.mono (by omega))).trans (hb5.mono (by omega))).trans (hb6.mono (by omega))⟩
end Go.Proofs.Ytibcehdehhffjaa
