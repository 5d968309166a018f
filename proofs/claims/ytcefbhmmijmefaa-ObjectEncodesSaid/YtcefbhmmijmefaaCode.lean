/- The walks of the layer 'code' and of its reference: what each function hands back, said by the plain functions of CodeSpec. Conditions: bytes that are made fit 2^47. -/
import Derived.Test.YtcefbhmmijmefaaRows
import Derived.Test.YtcefbhmmijmefaaU8
import Derived.Test.YtcefbhmmijmefaaCodeSpec
namespace Go.Proofs.Ytcefbhmmijmefaa
open Go.RowKit Go.Dol

set_option maxHeartbeats 400000 in
theorem Clone_calls (A : Option Addr) (l : List UInt8) (c : Nat) (w : World) (hr : Rd w w.heap.size 1 A l.length (bc l)) (hl : l.length ≤ 140737488355328) :
    Calls Try.prog 51 #[.slice A l.length c] w (RetB 5 w l) := by
  have he := eql_nil
  cases A with
  | none =>
    have h0 := hr.none_zero
    obtain rfl : l = [] := List.eq_nil_of_length_eq_zero h0
    go_enter Try.func51, Try.ntmps51
    go_wp2
    go_ret
    exact ⟨[], none, 0, rfl, rfl, World.ownsRow_nil _ _ _ _, Below.refl _ _, Nat.le_refl _, by unfold maxLen; omega⟩
  | some a =>
    go_enter Try.func51, Try.ntmps51
    go_wp2_with (at_builtin; refine app8 rfl (.tmp 5) (.tmp 6) rfl w.heap.size _ 0 [] rfl (own_empty w) w.heap.size (some a) l.length c l rfl (hr.alloc (Nat.le_refl _) _) (by omega) (by simp) ?_)
    intro l' A' c' w' e' h1 hb h2 h3 h4 h5
    go_wp2
    go_ret
    exact ⟨l', A', c', e', rfl, h1, ((Below.refl _ _).alloc (Nat.le_refl _) _).trans hb, h4, h5⟩

theorem Clone_cut (A : Option Addr) (l : List UInt8) (n c : Nat) (w : World) (hn : n = l.length) (hr : Rd w w.heap.size 1 A n (bc l)) (hl : n ≤ 140737488355328) :
    Calls Try.prog 51 #[.slice A n c] w (RetB 5 w l) := by
  subst hn
  exact Clone_calls A l c w hr hl

set_option maxHeartbeats 400000 in
theorem laidB_calls (A : Option Addr) (l : List UInt8) (c : Nat) (A2 : Option Addr) (l2 : List UInt8) (c2 : Nat) (w : World) (hr : Rd w w.heap.size 1 A l.length (bc l)) (hr2 : Rd w w.heap.size 1 A2 l2.length (bc l2))
    (hl : l.length + l2.length ≤ 140737488355328) :
    Calls Try.prog 49 #[.slice A l.length c, .slice A2 l2.length c2] w (RetB 5 w (l ++ l2)) := by
  go_enter Try.func49, Try.ntmps49
  go_wp2_with fail
  refine (Clone_calls A l c w hr (by omega)).mono ?_
  rintro e w1 ⟨l1, A1, c1, e1, rfl, h1, hb1, h2, h3⟩
  have hle : l1.length ≤ l.length := by rw [e1.out]; exact Nat.le_refl _
  have hs := hb1.size
  go_wp2_with (at_builtin; refine app8 rfl (.tmp 6) (.tmp 7) rfl w.heap.size _ l1.length l1 rfl h1 w.heap.size A2 l2.length c2 l2 rfl (hr2.below hb1) (by omega) hs ?_)
  intro l' A' c' w' e' g1 hb g2 g3 g4 g5
  go_wp2
  go_ret
  exact ⟨l', A', c', by unfold Hid at e1 e' ⊢; rw [e', e1], rfl, g1, hb1.trans hb, g4, g5⟩

set_option maxHeartbeats 400000 in
theorem laidS_calls (A : Option Addr) (l : List UInt8) (c : Nat) (s : ByteArray) (w : World) (hr : Rd w w.heap.size 1 A l.length (bc l))
    (hl : l.length + s.size ≤ 140737488355328) :
    Calls Try.prog 50 #[.slice A l.length c, .string s] w (RetB 5 w (l ++ s.data.toList)) := by
  go_enter Try.func50, Try.ntmps50
  go_wp2_with fail
  refine (Clone_calls A l c w hr (by omega)).mono ?_
  rintro e w1 ⟨l1, A1, c1, e1, rfl, h1, hb1, h2, h3⟩
  have hle : l1.length ≤ l.length := by rw [e1.out]; exact Nat.le_refl _
  have hs := hb1.size
  go_wp2_with (at_builtin; refine app8s rfl (.tmp 6) (.tmp 7) rfl w.heap.size _ l1.length l1 rfl h1 s rfl (by omega) hs ?_)
  intro l' A' c' w' e' g1 hb g2 g4 g5
  go_wp2
  go_ret
  exact ⟨l', A', c', by unfold Hid at e1 e' ⊢; rw [e', e1], rfl, g1, hb1.trans hb, g4, g5⟩

/-- The loop of PutNum: the groups that are laid, and the number that is left. -/
def PutRel (N : Nat) (w : World) (n v : Value) (wr : World) : Prop :=
  ∃ (m : Nat) (l : List UInt8) (A : Option Addr) (c : Nat), n = .int .i64 m ∧ v = .slice A l.length c ∧ wr.ownsRow w.heap.size 5 1 (.slice A l.length c) l.length (bc l) ∧ Hid (l ++ num m = num N) ∧ Below w.heap.size w wr ∧ m ≤ N

/-- What a number counts as, as the code reckons it. -/
theorem clamp_runs (n : Int) : ∃ M : Int, (∀ w : World, (Builtin.max_ #[3, 3] 3 #[.int .i64 n, .int .i64 0]).run Try.prog w = .ok (.int .i64 M) w) ∧
    (∀ w : World, (Builtin.min_ #[3, 3] 3 #[.int .i64 M, .int .i64 4611686018427387903]).run Try.prog w = .ok (.int .i64 (clampN n : Nat)) w) := by
  refine ⟨if 0 > n then 0 else n, fun w => run_max_int2 _ _ _ _ _ _ _, fun w => ?_⟩
  rw [run_min_int2]
  congr 2
  unfold clampN
  split <;> split <;> omega

set_option maxRecDepth 100000 in
set_option maxHeartbeats 400000 in
theorem PutNum_calls (A : Option Addr) (l : List UInt8) (c : Nat) (n : Int) (w : World) (hr : Rd w w.heap.size 1 A l.length (bc l)) (hl : l.length + 9 ≤ 140737488355328) :
    Calls Try.prog 16 #[.slice A l.length c, .int .i64 n] w (RetB 5 w (l ++ num (clampN n))) := by
  obtain ⟨M, hM1, hM2⟩ := clamp_runs n
  obtain ⟨N, hNe⟩ : ∃ N, N = clampN n := ⟨_, rfl⟩
  have HN : Hid (N ≤ mostNum) := by rw [hNe]; exact clampN_le n
  rw [← hNe] at hM2 ⊢
  clear hNe
  go_enter Try.func16, Try.ntmps16
  go_wp2_with fail
  clear hM1 hM2
  go_loopw [1, 5] (fun n' v wr => PutRel N w n' v wr) (fun n' _ _ => (intOf n').toNat)
  case atStart => exact ⟨N, [], none, 0, rfl, rfl, World.ownsRow_nil _ _ _ _, rfl, Below.refl _ _, Nat.le_refl _⟩
  case round =>
    obtain ⟨m, l1, A1, c1, rfl, rfl, h1, h2, h3, h4⟩ := hrel
    have hle : l1.length + (num m).length ≤ 9 := by
      have e1 : (l1 ++ num m).length = (num N).length := by rw [h2.out]
      have e2 := num_length_le 8 N (by have := HN.out; unfold mostNum at this; omega)
      rw [List.length_append] at e1
      omega
    have hnp := num_pos m
    have hle1 : l1.length ≤ 8 := by omega
    clear hle hnp
    have hs := h3.size
    by_cases hm : 128 ≤ m
    · have hmi : (128 : Int) ≤ m := by omega
      have hk := u8_or_128 m
      have hk0 : 0 ≤ bits .or .u8 ((m : Int) % 256) 128 := by omega
      have hk1 : bits .or .u8 ((m : Int) % 256) 128 < 256 := by omega
      have Hk := Lib.hid hk
      clear hk
      go_wp2_with (at_builtin; refine push8 rfl (.tmp 13) (.tmp 17) rfl w.heap.size _ l1.length l1 rfl h1 rfl hk0 hk1 (by omega) (by omega) ?_)
      intro d l' A' c' w' hd e' g1 gb g2 g3 g4 g5
      clear hk0 hk1
      go_wp2_with fail
      refine ⟨⟨m / 128, l', A', c', by go_num, rfl, g1, ?_, h3.trans gb, by omega⟩, by simp [intOf]; omega⟩
      have hd' := byte_of hd Hk.out
      unfold Hid at *
      rw [e', hd', ← h2, num_ge hm]
      simp
    · have hmi : (m : Int) < 128 := by omega
      go_wp2_with (at_builtin; refine push8 rfl (.tmp 20) (.tmp 23) rfl w.heap.size _ l1.length l1 rfl h1 rfl (by omega) (by omega) (by omega) (by omega) ?_)
      intro d l' A' c' w' hd e' g1 gb g2 g3 g4 g5
      have hb := h3.trans gb
      have hs' := hb.size
      have hle' : l'.length ≤ 9 := by rw [e'.out, List.length_append]; simp; omega
      go_wp2_with fail
      refine (laidB_calls A l c A' l' c' w' (hr.belowW hb (Nat.le_refl _) |>.more hs') (Rd.of_own g1) (by omega)).mono ?_
      rintro e w2 ⟨l2, A2, c2, e2, rfl, p1, pb, p2, p3⟩
      go_wp2_with fail
      go_ret
      refine ⟨l2, A2, c2, ?_, rfl, p1.base hs', hb.trans (pb.mono hs'), p2, p3⟩
      have hd' := byte_of (n := m) hd (by omega)
      unfold Hid at *
      rw [e2, e', hd', ← h2, num_lt (by omega)]
end Go.Proofs.Ytcefbhmmijmefaa
