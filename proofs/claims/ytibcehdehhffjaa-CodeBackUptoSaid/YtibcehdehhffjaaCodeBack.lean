/- The walk of the law CodeBack. Conditions: lengths up to 1048576. -/
import Derived.Test.YtibcehdehhffjaaCodeN
namespace Go.Proofs.Ytibcehdehhffjaa
open Go.RowKit Go.Dol
set_option linter.unusedVariables false

theorem str_self (s : ByteArray) : (⟨s.data.toList.toArray⟩ : ByteArray) = s := by cases s; simp

set_option maxRecDepth 100000 in
set_option maxHeartbeats 400000 in
theorem codeBack_walk (n : Int) (s : ByteArray) (m : Int) (A : Option Addr) (l : List UInt8) (c : Nat) (w : World) (hn : (Lit.int .i64 n).wf = true) (hs : s.size ≤ 1048576) (hm : (Lit.int .i64 m).wf = true)
    (hr : Rd w w.heap.size 1 A l.length (bc l)) (hc : l.length ≤ c) (hmx : c ≤ maxLen) (hl : l.length ≤ 1048576) :
    Calls Try.prog 8 #[.int .i64 n, .string s, .int .i64 m, .slice A l.length c] w fun e w' => e = .returned (.bool true) ∧ Below w.heap.size w w' := by
  clear hn hm
  obtain ⟨M, hM1, hM2⟩ := clamp_runs n
  obtain ⟨M', hM3, hM4⟩ := clampI_runs m
  obtain ⟨N, hN⟩ : ∃ N, N = clampN n := ⟨_, rfl⟩
  obtain ⟨K, hK⟩ : ∃ K, K = clampI m := ⟨_, rfl⟩
  have hNm : Hid (N ≤ mostNum) := by rw [hN]; exact clampN_le n
  have hKm : Hid (zig K ≤ mostNum) := by rw [hK]; exact zig_most (clampI_range m).1 (clampI_range m).2
  rw [← hN] at hM2
  rw [← hK] at hM4
  have HN := Lib.hid hN
  have HK := Lib.hid hK
  have es := Lib.hid (str_len s)
  have hsm : Hid (s.size ≤ mostNum) := by unfold Hid mostNum; omega
  clear hN hK
  go_enter Try.func8, Try.ntmps8
  go_wp2_with fail
  refine (awake_calls w).mono ?_
  rintro e w0 ⟨rfl, hb0⟩
  have s0 := hb0.size
  go_wp2_with fail
  refine (PutNum_calls none [] 0 _ w0 Rd.nil (by decide)).mono ?_
  rintro e w1 ⟨l1, A1, c1, e1, rfl, h1, hb1, h2, h3⟩
  have s1 := hb1.size
  have hl1 : l1.length ≤ 9 := by rw [e1.out]; exact num_length_le 8 _ (by have := clampN_le n; unfold mostNum at this; omega)
  go_wp2_with fail
  with_reducible refine (PutText_calls A1 l1 c1 s w1 (Rd.of_own h1) (by omega)).mono ?_
  rintro e w2 ⟨l2, A2, c2, e2, rfl, g1, hb2, g2, g3⟩
  have s2 := hb2.size
  have hl2 : l2.length ≤ s.size + 18 := by
    have := num_length_le 8 s.size (by omega)
    rw [e2.out, text, es.out, List.length_append, List.length_append, es.out]
    omega
  go_wp2_with fail
  with_reducible refine (PutInt_calls A2 l2 c2 m w2 (Rd.of_own g1) (by omega)).mono ?_
  rintro e w3 ⟨l3, A3, c3, e3, rfl, k1, hb3, k2, k3⟩
  have s3 := hb3.size
  have hl3 : l3.length ≤ s.size + 27 := by
    have := num_length_le 8 (zig K) (by have := hKm.out; unfold mostNum at this; omega)
    rw [e3.out, ← HK.out, List.length_append]
    omega
  have hr2 := ((((hr.below hb0).more s0).below hb1).more s1 |>.below hb2 |>.more s2)
  have hr3 := (hr2.below hb3).more s3
  go_wp2_with (at_builtin; refine app8 rfl (.tmp 27) (.tmp 28) rfl w2.heap.size _ l3.length l3 rfl k1 w3.heap.size A l.length c l rfl hr3 (by omega) s3 ?_)
  intro l4 A4 c4 w4 e4 p1 hb4 p2 p3 p4 p5
  have s4 := hb4.size
  have hl4 : l4.length ≤ s.size + 27 + l.length := by rw [e4.out, List.length_append]; omega
  have E4 : Hid (l4 = num N ++ (text s.data.toList ++ (num (zig K) ++ l))) := by
    unfold Hid at *
    rw [e4, e3, e2, e1, ← HN, ← HK, List.nil_append]
    simp only [List.append_assoc]
  have hbelow : Hid (Below w.heap.size w w4) := (((hb0.trans (hb1.mono s0)).trans (hb2.mono (by omega))).trans (hb3.mono (by omega))).trans (hb4.mono (by omega))
  have hrest := ((hr2.below hb3).below hb4).more (show w2.heap.size ≤ w4.heap.size by omega)
  have HT1 : Hid (takeNum l4 = some (N, text s.data.toList ++ (num (zig K) ++ l))) := by
    unfold Hid
    rw [E4.out]
    exact takeNum_num N _ hNm.out
  clear e1 e2 e3 e4 h1 g1 k1 hb0 hb1 hb2 hb3 hb4 p2 p3 hr3 hr2 hr hl1 hl2 hl3
  go_wp2_with fail
  with_reducible refine (TakeNum_n A4 l4 _ c4 w4 rfl (Rd.of_own p1) (by omega) p4).mono ?_
  intro e w5 h5
  rw [HT1.out] at h5
  obtain ⟨q5, A5, c5, e5, rfl, r1, hb5, r2, r3⟩ := h5
  have s5 := hb5.size
  have hl5 : q5.length ≤ s.size + 27 + l.length := by
    have h1 := congrArg List.length E4.out
    rw [List.length_append] at h1
    rw [e5.out]
    omega
  have HT2 : Hid (takeText q5 (s.size : Nat) = some (s.data.toList, num (zig K) ++ l)) := by
    unfold Hid
    rw [e5.out]
    exact takeText_text _ _ _ (by rw [es.out]; omega) (by rw [es.out]; exact hsm.out)
  go_wp2_with fail
  with_reducible refine (TakeText_n A5 q5 _ c5 _ w5 rfl (Rd.of_own r1) (by omega) r2).mono ?_
  intro e w6 h6
  rw [HT2.out] at h6
  obtain ⟨q6, A6, c6, e6, rfl, r4, hb6, r5, r6⟩ := h6
  have s6 := hb6.size
  have hl6 : q6.length ≤ s.size + 27 + l.length := by
    have h1 := congrArg List.length E4.out
    rw [List.length_append, List.length_append] at h1
    rw [e6.out]
    omega
  have HT3 : Hid (takeNum q6 = some (zig K, l)) := by
    unfold Hid
    rw [e6.out]
    exact takeNum_num _ _ hKm.out
  go_wp2_with fail
  with_reducible refine (TakeInt_calls A6 q6 c6 w6 r4 (by omega) r5).mono ?_
  intro e w7 h7
  rw [HT3.out] at h7
  obtain ⟨q7, A7, c7, e7, rfl, r7, hb7, r8, r9⟩ := h7
  rw [zag_zig]
  go_wp2_with fail
  with_reducible refine (Same_n A7 q7 _ c7 A l _ c w7 _ _ (Rd.of_own r7) (((hrest.below hb5).more s5 |>.below hb6).more s6 |>.below hb7) e7).mono ?_
  rintro e w7' ⟨rfl, rfl⟩
  go_wp2_with fail
  go_ret
  exact ⟨rfl, (((hbelow.out.trans (hb5.mono (by omega))).trans (hb6.mono (by omega))).trans (hb7.mono (by omega)))⟩
end Go.Proofs.Ytibcehdehhffjaa
