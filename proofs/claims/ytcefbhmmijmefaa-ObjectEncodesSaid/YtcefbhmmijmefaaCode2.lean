/- The walks of the layer 'code', its second part: the reference's PutNum; texts; numbers that may be below 0. Conditions: bytes that are made fit 2^47. -/
import Derived.Test.YtcefbhmmijmefaaCode
namespace Go.Proofs.Ytcefbhmmijmefaa
open Go.RowKit Go.Dol

/-- The loop of the reference's PutNum. -/
def RefPutRel (N : Nat) (b : List UInt8) (w : World) (n v : Value) (wr : World) : Prop :=
  ∃ (m : Nat) (l : List UInt8) (A : Option Addr) (c : Nat), n = .int .i64 m ∧ v = .slice A l.length c ∧ wr.ownsRow w.heap.size 5 1 (.slice A l.length c) l.length (bc l) ∧ Hid (l ++ num m = b ++ num N) ∧ Below w.heap.size w wr ∧ m ≤ N ∧ l.length ≤ c ∧ c ≤ maxLen

set_option maxRecDepth 100000 in
set_option maxHeartbeats 400000 in
theorem RefPutNum_calls (A : Option Addr) (l : List UInt8) (c : Nat) (n : Int) (w : World) (hr : Rd w w.heap.size 1 A l.length (bc l)) (hl : l.length + 9 ≤ 140737488355328) :
    Calls Try.prog 17 #[.slice A l.length c, .int .i64 n] w (RetB 5 w (l ++ num (clampN n))) := by
  obtain ⟨M, hM1, hM2⟩ := clamp_runs n
  obtain ⟨N, hNe⟩ : ∃ N, N = clampN n := ⟨_, rfl⟩
  have HN : Hid (N ≤ mostNum) := by rw [hNe]; exact clampN_le n
  rw [← hNe] at hM2 ⊢
  clear hNe
  go_enter Try.func17, Try.ntmps17
  go_wp2_with (at_builtin; refine app8 rfl (.tmp 9) (.tmp 10) rfl w.heap.size (.slice none 0 0) 0 [] rfl (World.ownsRow_nil _ _ _ _) w.heap.size A l.length c l rfl hr (by omega) (Nat.le_refl _) ?_)
  intro l0 A0 c0 w0 e0 h10 hb0 g20 g30 g40 g50
  clear hM1 hM2 hr
  go_wp2_with fail
  go_loopw [1, 5] (fun n' v wr => RefPutRel N l w n' v wr) (fun n' _ _ => (intOf n').toNat)
  case atStart => exact ⟨N, l0, A0, c0, rfl, rfl, h10, by unfold Hid; rw [e0.out], hb0, Nat.le_refl _, g40, g50⟩
  case round =>
    clear e0 h10 hb0 g20 g30 g40 g50
    obtain ⟨m, l1, A1, c1, rfl, rfl, h1, h2, h3, h4, h5, h6⟩ := hrel
    have hle : l1.length + (num m).length ≤ l.length + 9 := by
      have e1 : (l1 ++ num m).length = (l ++ num N).length := by rw [h2.out]
      have e2 := num_length_le 8 N (by have := HN.out; unfold mostNum at this; omega)
      rw [List.length_append, List.length_append] at e1
      omega
    have hnp := num_pos m
    have hle1 : l1.length + 1 ≤ l.length + 9 := by omega
    have hmb : (m : Int) ≤ 4611686018427387903 := by have := HN.out; unfold mostNum at this; omega
    clear hle hnp h5 h6
    have hs := h3.size
    by_cases hm : 128 ≤ m
    · have hmi : (128 : Int) ≤ m := by omega
      go_wp2_with (at_builtin; refine push8 rfl (.tmp 14) (.tmp 19) rfl w.heap.size _ l1.length l1 rfl h1 rfl (by omega) (by omega) (by omega) (by omega) ?_)
      intro d l' A' c' w' hd e' g1 gb g2 g3 g4 g5
      go_wp2_with fail
      refine ⟨⟨m / 128, l', A', c', by go_num, rfl, g1, ?_, h3.trans gb, by omega, g4, g5⟩, by simp [intOf]; omega⟩
      have hd' := byte_of (n := 128 + m % 128) hd (by omega)
      unfold Hid at *
      rw [e', hd', ← h2, num_ge hm]
      simp
    · have hmi : (m : Int) < 128 := by omega
      go_wp2_with (at_builtin; refine push8 rfl (.tmp 23) (.tmp 26) rfl w.heap.size _ l1.length l1 rfl h1 rfl (by omega) (by omega) (by omega) (by omega) ?_)
      intro d l' A' c' w' hd e' g1 gb g2 g3 g4 g5
      go_wp2_with fail
      go_ret
      refine ⟨l', A', c', ?_, rfl, g1, h3.trans gb, g4, g5⟩
      have hd' := byte_of (n := m) hd (by omega)
      unfold Hid at *
      rw [e', hd', ← h2, num_lt (by omega)]

theorem clampN_nat {k : Nat} (h : k ≤ mostNum) : clampN (k : Int) = k := by unfold clampN; unfold mostNum at h; omega

set_option maxHeartbeats 400000 in
theorem PutText_calls (A : Option Addr) (l : List UInt8) (c : Nat) (s : ByteArray) (w : World) (hr : Rd w w.heap.size 1 A l.length (bc l)) (hl : l.length + 9 + s.size ≤ 140737488355328) :
    Calls Try.prog 18 #[.slice A l.length c, .string s] w (RetB 5 w (l ++ text s.data.toList)) := by
  have es : s.data.toList.length = s.size := by rw [Array.length_toList]; rfl
  have hm : s.size ≤ mostNum := by unfold mostNum; omega
  have Hc := Lib.hid (clampN_nat hm)
  have Hm := Lib.hid hm
  have Es := Lib.hid es
  clear hm es
  go_enter Try.func18, Try.ntmps18
  go_wp2_with fail
  refine (PutNum_calls A l c s.size w hr (by omega)).mono ?_
  rintro e w1 ⟨l1, A1, c1, e1, rfl, h1, hb1, h2, h3⟩
  have hle : l1.length ≤ l.length + 9 := by
    have e2 := num_length_le 8 s.size (by have := Hm.out; unfold mostNum at this; omega)
    rw [e1.out, List.length_append, Hc.out]
    omega
  have hs := hb1.size
  go_wp2_with fail
  refine (laidS_calls A1 l1 c1 s w1 (Rd.of_own h1) (by omega)).mono ?_
  rintro e w2 ⟨l2, A2, c2, e2, rfl, p1, pb, p2, p3⟩
  go_wp2_with fail
  go_ret
  refine ⟨l2, A2, c2, ?_, rfl, p1.base hs, hb1.trans (pb.mono hs), p2, p3⟩
  unfold Hid at *
  rw [e2, e1, Hc, text, Es, List.append_assoc]

set_option maxHeartbeats 400000 in
theorem RefPutText_calls (A : Option Addr) (l : List UInt8) (c : Nat) (s : ByteArray) (w : World) (hr : Rd w w.heap.size 1 A l.length (bc l)) (hl : l.length + 9 + s.size ≤ 140737488355328) :
    Calls Try.prog 19 #[.slice A l.length c, .string s] w (RetB 5 w (l ++ text s.data.toList)) := by
  have es : s.data.toList.length = s.size := by rw [Array.length_toList]; rfl
  have hm : s.size ≤ mostNum := by unfold mostNum; omega
  have Hc := Lib.hid (clampN_nat hm)
  have Hm := Lib.hid hm
  have Es := Lib.hid es
  clear hm es
  go_enter Try.func19, Try.ntmps19
  go_wp2_with fail
  refine (RefPutNum_calls A l c s.size w hr (by omega)).mono ?_
  rintro e w1 ⟨l1, A1, c1, e1, rfl, h1, hb1, h2, h3⟩
  have hle : l1.length ≤ l.length + 9 := by
    have e2 := num_length_le 8 s.size (by have := Hm.out; unfold mostNum at this; omega)
    rw [e1.out, List.length_append, Hc.out]
    omega
  have hs := hb1.size
  go_wp2_with (at_builtin; refine app8s rfl (.tmp 8) (.tmp 9) rfl w.heap.size _ l1.length l1 rfl h1 s rfl (by omega) hs ?_)
  intro l' A' c' w' e' g1 hb g2 g4 g5
  go_wp2
  go_ret
  refine ⟨l', A', c', ?_, rfl, g1, hb1.trans hb, g4, g5⟩
  unfold Hid at *
  rw [e', e1, Hc, text, Es, List.append_assoc]

end Go.Proofs.Ytcefbhmmijmefaa
