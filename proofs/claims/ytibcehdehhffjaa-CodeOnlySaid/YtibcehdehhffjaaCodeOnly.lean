/- The walk of the law CodeOnly. Conditions: the form's reach. -/
import Derived.Test.YtibcehdehhffjaaCodeN
namespace Go.Proofs.Ytibcehdehhffjaa
open Go.RowKit Go.Dol
set_option linter.unusedVariables false

set_option maxRecDepth 100000 in
set_option maxHeartbeats 400000 in
theorem codeOnly_walk (A : Option Addr) (l : List UInt8) (c : Nat) (w : World) (hr : Rd w w.heap.size 1 A l.length (bc l)) (hc : l.length ≤ c) (hmx : c ≤ maxLen) (hl : l.length ≤ 140737488351232) :
    Calls Try.prog 9 #[.slice A l.length c] w fun e w' => e = .returned (.bool true) ∧ Below w.heap.size w w' := by
  cases hT : takeNum l with
  | none =>
    have HX : Hid (takeText l (l.length : Nat) = none) := by unfold Hid takeText; rw [hT]
    have HT := Lib.hid hT
    clear hT
    go_enter Try.func9, Try.ntmps9
    go_wp2_with fail
    refine (awake_calls w).mono ?_
    rintro e w0 ⟨rfl, hb0⟩
    have s0 := hb0.size
    have r0 := (hr.below hb0).more s0
    go_wp2_with fail
    with_reducible refine (TakeNum_calls A l c w0 r0 (by omega) hc).mono ?_
    intro e w1 h1
    rw [HT.out] at h1
    obtain ⟨rfl, hb1⟩ := h1
    have s1 := hb1.size
    have r1 := (r0.below hb1).more s1
    go_wp2_with fail
    with_reducible refine (TakeInt_calls A l c w1 r1 (by omega) hc).mono ?_
    intro e w2 h2
    rw [HT.out] at h2
    obtain ⟨rfl, hb2⟩ := h2
    have s2 := hb2.size
    have r2 := (r1.below hb2).more s2
    go_wp2_with fail
    with_reducible refine (TakeText_calls A l c _ w2 r2 (by omega) hc).mono ?_
    intro e w3 h3
    rw [HX.out] at h3
    obtain ⟨rfl, hb3⟩ := h3
    go_wp2_with fail
    go_ret
    exact ⟨rfl, ((hb0.trans (hb1.mono s0)).trans (hb2.mono (by omega))).trans (hb3.mono (by omega))⟩
  | some p =>
    obtain ⟨n, q⟩ := p
    obtain ⟨hl1, hn⟩ := num_takeNum hT
    have HL : Hid (l = num n ++ q) := hl1
    have Hn := Lib.hid hn
    have Hc : Hid (clampN (n : Nat) = n) := clampN_nat hn
    have Hz : Hid (zig (clampI (zag n)) = n) := by
      have h := zag_range hn
      have : clampI (zag n) = zag n := by unfold clampI; omega
      unfold Hid
      rw [this, zig_zag]
    have HT := Lib.hid hT
    have hlq : Hid ((num n).length + q.length = l.length) := by
      have := congrArg List.length hl1
      rw [List.length_append] at this
      exact this.symm
    clear hT hl1 hn
    cases hX : takeText l (l.length : Nat) with
    | none =>
      have HX := Lib.hid hX
      clear hX
      go_enter Try.func9, Try.ntmps9
      go_wp2_with fail
      refine (awake_calls w).mono ?_
      rintro e w0 ⟨rfl, hb0⟩
      have s0 := hb0.size
      have r0 := (hr.below hb0).more s0
      go_wp2_with fail
      with_reducible refine (TakeNum_calls A l c w0 r0 (by omega) hc).mono ?_
      intro e w1 h1
      rw [HT.out] at h1
      obtain ⟨q1, A1, c1, e1, rfl, o1, hb1, i1, j1⟩ := h1
      have s1 := hb1.size
      have r1 := (r0.below hb1).more s1
      go_wp2_with fail
      refine (PutNum_calls none [] 0 _ w1 Rd.nil (by decide)).mono ?_
      rintro e w2 ⟨l2, A2, c2, e2, rfl, o2, hb2, i2, j2⟩
      have s2 := hb2.size
      have r2 := (r1.below hb2).more s2
      have hlen : l2.length + q1.length ≤ 140737488355328 := by
        have h := hlq.out
        rw [e2.out, e1.out, List.nil_append, Hc.out]
        omega
      go_wp2_with (at_builtin; refine app8g rfl (.tmp 24) (.tmp 25) rfl w1.heap.size _ l2.length l2 rfl o2 w1.heap.size A1 _ c1 q1 rfl ((Rd.of_own o1).below hb2) hlen s2 ?_)
      intro l3 A3 c3 w3 e3 o3 hb3 g3 i3 j3
      have s3 := hb3.size
      have r3 := ((r1.below hb2).below hb3).more (show w1.heap.size ≤ w3.heap.size by omega)
      go_wp2_with fail
      with_reducible refine (Same_n A3 l3 _ c3 A l _ c w3 _ _ (Rd.of_own o3) r3 (by unfold Hid at *; rw [e3, e2, e1, HL, List.nil_append, Hc])).mono ?_
      rintro e w3' ⟨rfl, rfl⟩
      go_wp2_with fail
      with_reducible refine (TakeInt_calls A l c w3 r3 (by omega) hc).mono ?_
      intro e w4 h4
      rw [HT.out] at h4
      obtain ⟨q4, A4, c4, e4, rfl, o4, hb4, i4, j4⟩ := h4
      have s4 := hb4.size
      have r4 := (r3.below hb4).more s4
      go_wp2_with fail
      refine (PutInt_calls none [] 0 _ w4 Rd.nil (by decide)).mono ?_
      rintro e w5 ⟨l5, A5, c5, e5, rfl, o5, hb5, i5, j5⟩
      have s5 := hb5.size
      have hlen5 : l5.length + q4.length ≤ 140737488355328 := by
        have h := hlq.out
        rw [e5.out, e4.out, List.nil_append, Hz.out]
        omega
      go_wp2_with (at_builtin; refine app8g rfl (.tmp 41) (.tmp 42) rfl w4.heap.size _ l5.length l5 rfl o5 w4.heap.size A4 _ c4 q4 rfl ((Rd.of_own o4).below hb5) hlen5 s5 ?_)
      intro l6 A6 c6 w6 e6 o6 hb6 g6 i6 j6
      have s6 := hb6.size
      have r6 := ((r4.below hb5).below hb6).more (show w4.heap.size ≤ w6.heap.size by omega)
      go_wp2_with fail
      with_reducible refine (Same_n A6 l6 _ c6 A l _ c w6 _ _ (Rd.of_own o6) r6 (by unfold Hid at *; rw [e6, e5, e4, HL, List.nil_append, Hz])).mono ?_
      rintro e w6' ⟨rfl, rfl⟩
      go_wp2_with fail
      with_reducible refine (TakeText_calls A l c _ w6 r6 (by omega) hc).mono ?_
      intro e w7 h7
      rw [HX.out] at h7
      obtain ⟨rfl, hb7⟩ := h7
      go_wp2_with fail
      go_ret
      exact ⟨rfl, ((((((hb0.trans (hb1.mono s0)).trans (hb2.mono (by omega))).trans (hb3.mono (by omega))).trans (hb4.mono (by omega))).trans (hb5.mono (by omega))).trans (hb6.mono (by omega))).trans (hb7.mono (by omega))⟩
    | some p2 =>
      obtain ⟨t, x⟩ := p2
      obtain ⟨hlt, ht1, ht2⟩ := text_takeText hX
      have HX := Lib.hid hX
      have HLT := Lib.hid hlt
      have hlx : Hid ((text t).length + x.length = l.length) := by
        have := congrArg List.length hlt
        rw [List.length_append] at this
        exact this.symm
      have htt : t.length ≤ (text t).length := by rw [text, List.length_append]; omega
      have htl : (⟨t.toArray⟩ : ByteArray).size ≤ l.length := by
        have : (⟨t.toArray⟩ : ByteArray).size = t.length := by simp [ByteArray.size]
        have h := hlx.out
        omega
      have Htl := Lib.hid htl
      clear hX hlt ht1 ht2 htt htl
      go_enter Try.func9, Try.ntmps9
      go_wp2_with fail
      refine (awake_calls w).mono ?_
      rintro e w0 ⟨rfl, hb0⟩
      have s0 := hb0.size
      have r0 := (hr.below hb0).more s0
      go_wp2_with fail
      with_reducible refine (TakeNum_calls A l c w0 r0 (by omega) hc).mono ?_
      intro e w1 h1
      rw [HT.out] at h1
      obtain ⟨q1, A1, c1, e1, rfl, o1, hb1, i1, j1⟩ := h1
      have s1 := hb1.size
      have r1 := (r0.below hb1).more s1
      go_wp2_with fail
      refine (PutNum_calls none [] 0 _ w1 Rd.nil (by decide)).mono ?_
      rintro e w2 ⟨l2, A2, c2, e2, rfl, o2, hb2, i2, j2⟩
      have s2 := hb2.size
      have r2 := (r1.below hb2).more s2
      have hlen : l2.length + q1.length ≤ 140737488355328 := by
        have h := hlq.out
        rw [e2.out, e1.out, List.nil_append, Hc.out]
        omega
      go_wp2_with (at_builtin; refine app8g rfl (.tmp 24) (.tmp 25) rfl w1.heap.size _ l2.length l2 rfl o2 w1.heap.size A1 _ c1 q1 rfl ((Rd.of_own o1).below hb2) hlen s2 ?_)
      intro l3 A3 c3 w3 e3 o3 hb3 g3 i3 j3
      have s3 := hb3.size
      have r3 := ((r1.below hb2).below hb3).more (show w1.heap.size ≤ w3.heap.size by omega)
      go_wp2_with fail
      with_reducible refine (Same_n A3 l3 _ c3 A l _ c w3 _ _ (Rd.of_own o3) r3 (by unfold Hid at *; rw [e3, e2, e1, HL, List.nil_append, Hc])).mono ?_
      rintro e w3' ⟨rfl, rfl⟩
      go_wp2_with fail
      with_reducible refine (TakeInt_calls A l c w3 r3 (by omega) hc).mono ?_
      intro e w4 h4
      rw [HT.out] at h4
      obtain ⟨q4, A4, c4, e4, rfl, o4, hb4, i4, j4⟩ := h4
      have s4 := hb4.size
      have r4 := (r3.below hb4).more s4
      go_wp2_with fail
      refine (PutInt_calls none [] 0 _ w4 Rd.nil (by decide)).mono ?_
      rintro e w5 ⟨l5, A5, c5, e5, rfl, o5, hb5, i5, j5⟩
      have s5 := hb5.size
      have hlen5 : l5.length + q4.length ≤ 140737488355328 := by
        have h := hlq.out
        rw [e5.out, e4.out, List.nil_append, Hz.out]
        omega
      go_wp2_with (at_builtin; refine app8g rfl (.tmp 41) (.tmp 42) rfl w4.heap.size _ l5.length l5 rfl o5 w4.heap.size A4 _ c4 q4 rfl ((Rd.of_own o4).below hb5) hlen5 s5 ?_)
      intro l6 A6 c6 w6 e6 o6 hb6 g6 i6 j6
      have s6 := hb6.size
      have r6 := ((r4.below hb5).below hb6).more (show w4.heap.size ≤ w6.heap.size by omega)
      go_wp2_with fail
      with_reducible refine (Same_n A6 l6 _ c6 A l _ c w6 _ _ (Rd.of_own o6) r6 (by unfold Hid at *; rw [e6, e5, e4, HL, List.nil_append, Hz])).mono ?_
      rintro e w6' ⟨rfl, rfl⟩
      go_wp2_with fail
      with_reducible refine (TakeText_calls A l c _ w6 r6 (by omega) hc).mono ?_
      intro e w7 h7
      rw [HX.out] at h7
      obtain ⟨q7, A7, c7, e7, rfl, o7, hb7, i7, j7⟩ := h7
      have s7 := hb7.size
      have r7 := (r6.below hb7).more s7
      go_wp2_with fail
      refine (PutText_calls none [] 0 _ w7 Rd.nil (by have := Htl.out; simp only [List.length_nil]; omega)).mono ?_
      rintro e w8 ⟨l8, A8, c8, e8, rfl, o8, hb8, i8, j8⟩
      have s8 := hb8.size
      have hlen8 : l8.length + q7.length ≤ 140737488355328 := by
        have h := hlx.out
        have E8 : l8 = text t := e8.out
        rw [E8, e7.out]
        omega
      go_wp2_with (at_builtin; refine app8g rfl (.tmp 60) (.tmp 61) rfl w7.heap.size _ l8.length l8 rfl o8 w7.heap.size A7 _ c7 q7 rfl (o7.below hb8) hlen8 s8 ?_)
      intro l9 A9 c9 w9 e9 o9 hb9 g9 i9 j9
      have s9 := hb9.size
      have r9 := ((r7.below hb8).below hb9).more (show w7.heap.size ≤ w9.heap.size by omega)
      go_wp2_with fail
      with_reducible refine (Same_n A9 l9 _ c9 A l _ c w9 _ _ (Rd.of_own o9) r9 (by unfold Hid at *; rw [e9, e8, e7, HLT, List.nil_append])).mono ?_
      rintro e w9' ⟨rfl, rfl⟩
      go_wp2_with fail
      go_ret
      exact ⟨rfl, ((((((((hb0.trans (hb1.mono s0)).trans (hb2.mono (by omega))).trans (hb3.mono (by omega))).trans (hb4.mono (by omega))).trans (hb5.mono (by omega))).trans (hb6.mono (by omega))).trans (hb7.mono (by omega))).trans (hb8.mono (by omega))).trans (hb9.mono (by omega))⟩
end Go.Proofs.Ytibcehdehhffjaa
