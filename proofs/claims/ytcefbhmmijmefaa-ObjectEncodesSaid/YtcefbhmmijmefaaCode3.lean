/- The walks of the layer 'code', its third part: numbers that may be below 0; two rows of bytes held against each other. Conditions: bytes that are made fit 2^47. -/
import Derived.Test.YtcefbhmmijmefaaCode2
namespace Go.Proofs.Ytcefbhmmijmefaa
open Go.RowKit Go.Dol

theorem clampI_runs (n : Int) : ∃ M : Int, (∀ w : World, (Builtin.max_ #[3, 3] 3 #[.int .i64 n, .int .i64 (-2305843009213693952)]).run Try.prog w = .ok (.int .i64 M) w) ∧
    (∀ w : World, (Builtin.min_ #[3, 3] 3 #[.int .i64 M, .int .i64 2305843009213693951]).run Try.prog w = .ok (.int .i64 (clampI n)) w) := by
  refine ⟨if -2305843009213693952 > n then -2305843009213693952 else n, fun w => run_max_int2 _ _ _ _ _ _ _, fun w => ?_⟩
  rw [run_min_int2]
  congr 2
  unfold clampI
  split <;> split <;> omega

/-- The number of a number that may be below 0, as the code reckons it. -/
theorem zig_runs (K : Int) (h1 : -2305843009213693952 ≤ K) (h2 : K ≤ 2305843009213693951) : ∃ D S : Int, Op.shift .shl .i64 K .u64 1 = pure (.int .i64 D) ∧ Op.shift .shr .i64 K .u64 63 = pure (.int .i64 S) ∧ bits .xor .i64 D S = (zig K : Nat) := by
  refine ⟨2 * K, if 0 ≤ K then 0 else -1, ?_, ?_, ?_⟩
  · rw [shift_shl .i64 .u64 K 1 (by omega) (by decide), IntKind.wrap_i64]
    congr 2
    simp
    omega
  · rw [shift_shr .i64 .u64 K 63 (by omega) (by decide)]
    congr 2
    simp
    split <;> omega
  · split
    · rw [i64_xor_zero _ (by omega) (by omega)]
      unfold zig
      rw [if_pos (by assumption)]
      omega
    · rw [i64_xor_neg1 _ (by omega) (by omega)]
      unfold zig
      rw [if_neg (by assumption)]
      omega

set_option maxRecDepth 100000 in
set_option maxHeartbeats 400000 in
theorem PutInt_calls (A : Option Addr) (l : List UInt8) (c : Nat) (n : Int) (w : World) (hr : Rd w w.heap.size 1 A l.length (bc l)) (hl : l.length + 9 ≤ 140737488355328) :
    Calls Try.prog 20 #[.slice A l.length c, .int .i64 n] w (RetB 5 w (l ++ num (zig (clampI n)))) := by
  obtain ⟨M, hM1, hM2⟩ := clampI_runs n
  have hK := clampI_range n
  obtain ⟨K, hKe⟩ : ∃ K, K = clampI n := ⟨_, rfl⟩
  rw [← hKe] at hM2 hK ⊢
  clear hKe
  obtain ⟨D, S, hs1, hs2, hs3⟩ := zig_runs K hK.1 hK.2
  have HZ : Hid (clampN (zig K : Nat) = zig K) := clampN_nat (zig_most hK.1 hK.2)
  clear hK
  go_enter Try.func20, Try.ntmps20
  go_wp2_with fail
  refine (PutNum_calls A l c _ w hr hl).mono ?_
  rintro e w1 ⟨l1, A1, c1, e1, rfl, h1, hb1, h2, h3⟩
  go_wp2_with fail
  go_ret
  exact ⟨l1, A1, c1, by unfold Hid at *; rw [e1, HZ], rfl, h1, hb1, h2, h3⟩

theorem clampN_dbl {K : Int} (h1 : -2305843009213693952 ≤ K) (h2 : K ≤ 2305843009213693951) : (0 ≤ K → clampN (2 * K) = zig K) ∧ (K < 0 → clampN (-2 * K - 1) = zig K) := by
  unfold clampN zig
  constructor
  · intro h
    rw [if_pos h]
    omega
  · intro h
    rw [if_neg (by omega)]
    omega

set_option maxRecDepth 100000 in
set_option maxHeartbeats 400000 in
theorem RefPutInt_calls (A : Option Addr) (l : List UInt8) (c : Nat) (n : Int) (w : World) (hr : Rd w w.heap.size 1 A l.length (bc l)) (hl : l.length + 9 ≤ 140737488355328) :
    Calls Try.prog 21 #[.slice A l.length c, .int .i64 n] w (RetB 5 w (l ++ num (zig (clampI n)))) := by
  obtain ⟨M, hM1, hM2⟩ := clampI_runs n
  have hK := clampI_range n
  obtain ⟨K, hKe⟩ : ∃ K, K = clampI n := ⟨_, rfl⟩
  rw [← hKe] at hM2 hK ⊢
  clear hKe
  obtain ⟨hK1, hK2⟩ := hK
  obtain ⟨hz1, hz2⟩ := clampN_dbl hK1 hK2
  by_cases h0 : 0 ≤ K
  · have HZ := Lib.hid (hz1 h0)
    clear hz1 hz2
    go_enter Try.func21, Try.ntmps21
    go_wp2_with fail
    refine (RefPutNum_calls A l c _ w hr hl).mono ?_
    rintro e w1 ⟨l1, A1, c1, e1, rfl, h1, hb1, h2, h3⟩
    go_wp2_with fail
    go_ret
    exact ⟨l1, A1, c1, by unfold Hid at *; rw [e1, HZ], rfl, h1, hb1, h2, h3⟩
  · have h0' : K < 0 := by omega
    have HZ := Lib.hid (hz2 h0')
    clear hz1 hz2 h0
    go_enter Try.func21, Try.ntmps21
    go_wp2_with fail
    refine (RefPutNum_calls A l c _ w hr hl).mono ?_
    rintro e w1 ⟨l1, A1, c1, e1, rfl, h1, hb1, h2, h3⟩
    go_wp2_with fail
    go_ret
    exact ⟨l1, A1, c1, by unfold Hid at *; rw [e1, HZ], rfl, h1, hb1, h2, h3⟩

set_option maxHeartbeats 400000 in
theorem Same_calls (A1 : Option Addr) (l : List UInt8) (c1 : Nat) (A2 : Option Addr) (l2 : List UInt8) (c2 : Nat) (w : World) (B1 B2 : Nat) (h1 : Rd w B1 1 A1 l.length (bc l)) (h2 : Rd w B2 1 A2 l2.length (bc l2)) (he : Hid (l = l2)) :
    Calls Try.prog 15 #[.slice A1 l.length c1, .slice A2 l2.length c2] w fun e w' => e = .returned (.bool true) ∧ w = w' := by
  obtain rfl := he.out
  go_enter Try.func15, Try.ntmps15
  go_wp2_with (first | refine conv8 rfl (.tmp 5) rfl B1 A1 _ c1 l rfl h1 ?_ | refine conv8 rfl (.tmp 7) rfl B2 A2 _ c2 l rfl h2 ?_)
  go_ret
  exact ⟨by simp, rfl⟩
end Go.Proofs.Ytcefbhmmijmefaa
