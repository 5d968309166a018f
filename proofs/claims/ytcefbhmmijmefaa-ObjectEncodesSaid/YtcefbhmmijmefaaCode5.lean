/- The walks of the layer 'code', its fifth part: taking texts and numbers that may be below 0. Conditions: bytes that are made fit 2^47. -/
import Derived.Test.YtcefbhmmijmefaaCode4
import Derived.Deep.QuietTactic
import Derived.BigQuiet
namespace Go.Proofs.Ytcefbhmmijmefaa
open Go.RowKit Go.Dol

set_option maxRecDepth 100000 in
set_option maxHeartbeats 400000 in
theorem TakeText_calls (A : Option Addr) (l : List UInt8) (c : Nat) (most : Int) (w : World) (hr : Rd w w.heap.size 1 A l.length (bc l)) (hl : l.length ≤ 140737488355328) (hc : l.length ≤ c) :
    Calls Try.prog 24 #[.slice A l.length c, .int .i64 most] w (RetText w (takeText l most)) := by
  cases ht : takeNum l with
  | none =>
    have HE : Hid (takeText l most = none) := by unfold Hid takeText; rw [ht]
    have HT := Lib.hid ht
    clear ht
    go_enter Try.func24, Try.ntmps24
    go_wp2_with fail
    refine (TakeNum_calls A l c w hr hl hc).mono ?_
    intro e w1 h1
    rw [HT.out] at h1
    obtain ⟨rfl, hb1⟩ := h1
    go_wp2_with fail
    go_ret3
    rw [HE.out]
    exact ⟨rfl, hb1⟩
  | some p =>
    obtain ⟨n, q⟩ := p
    have hn := (num_takeNum ht).2
    unfold mostNum at hn
    have hni : (n : Int) ≤ 4611686018427387903 := by omega
    have HE : Hid (takeText l most = if (n : Int) ≤ most ∧ n ≤ q.length then some (q.take n, q.drop n) else none) := by unfold Hid takeText; rw [ht]
    have HT := Lib.hid ht
    clear ht hn
    have hcase : most < (n : Int) ∨ ((n : Int) ≤ most ∧ q.length < n) ∨ ((n : Int) ≤ most ∧ n ≤ q.length) := by omega
    rcases hcase with h0 | ⟨h0, h00⟩ | ⟨h0, h00⟩
    · have HE2 : Hid (takeText l most = none) := by have := HE.out; rwa [if_neg (by omega)] at this
      clear HE
      have hd : decide (most < (n : Int)) = true := by simpa using h0
      go_enter Try.func24, Try.ntmps24
      go_wp2_with fail
      refine (TakeNum_calls A l c w hr hl hc).mono ?_
      intro e w1 h1
      rw [HT.out] at h1
      obtain ⟨q1, A1, c1, e1, rfl, h1, hb1, h2, h3⟩ := h1
      go_wp2_with fail
      go_ret3
      rw [HE2.out]
      exact ⟨rfl, hb1⟩
    · have HE2 : Hid (takeText l most = none) := by have := HE.out; rwa [if_neg (by omega)] at this
      clear HE
      have hd : decide (most < (n : Int)) = false := by simpa using h0
      go_enter Try.func24, Try.ntmps24
      go_wp2_with fail
      refine (TakeNum_calls A l c w hr hl hc).mono ?_
      intro e w1 h1
      rw [HT.out] at h1
      obtain ⟨q1, A1, c1, e1, rfl, h1, hb1, h2, h3⟩ := h1
      have hd2 : decide (q1.length < n) = true := by rw [e1.out]; simpa using h00
      have hd3 : decide ((q1.length : Int) < (n : Int)) = true := by rw [e1.out]; simpa using h00
      go_wp2_with fail
      go_ret3
      rw [HE2.out]
      exact ⟨rfl, hb1⟩
    · have HE2 : Hid (takeText l most = some (q.take n, q.drop n)) := by have := HE.out; rwa [if_pos ⟨h0, h00⟩] at this
      clear HE
      have hd : decide (most < (n : Int)) = false := by simpa using h0
      go_enter Try.func24, Try.ntmps24
      go_wp2_with fail
      refine (TakeNum_calls A l c w hr hl hc).mono ?_
      intro e w1 h1
      rw [HT.out] at h1
      obtain ⟨q1, A1, c1, e1, rfl, h1, hb1, h2, h3⟩ := h1
      have hnq : n ≤ q1.length := by rw [e1.out]; exact h00
      have hd2 : decide (q1.length < n) = false := by simpa using hnq
      have hd3 : decide ((q1.length : Int) < (n : Int)) = false := by simpa using hnq
      have hr1 := Rd.of_own h1
      have ht := (hr1.tail hnq h2)
      have hcv1 : ∀ k, (convert 22 9 (.slice A1 n c1)).run Try.prog (w1.drewN k) = .ok (.string ⟨(q1.take n).toArray⟩) (w1.drewN k) := fun k => run_conv_bs _ _ _ _ Try.underlying22 Try.underlying5 Try.underlying9 _ A1 n c1 (q1.take n) ((hr1.head hnq).drewN k)
      have hcv2 : (convert 22 9 (.slice A1 n c1)).run Try.prog w1.drew = .ok (.string ⟨(q1.take n).toArray⟩) w1.drew := run_conv_bs _ _ _ _ Try.underlying22 Try.underlying5 Try.underlying9 _ A1 n c1 (q1.take n) (hr1.head hnq).drew
      have hnc : n ≤ c1 := by omega
      by_cases hcap : c1 = n
      · clear ht
        subst hcap
        go_wp2_with fail
        go_quiet (fail)
        go_wp2_with fail
        go_ret3
        rw [HE2.out]
        cases e1.out
        exact ⟨[], A1, 0, (List.drop_eq_nil_of_le (by omega)).symm, rfl, Rd.nil, Below.drewN' hb1 _, Nat.le_refl _, by unfold maxLen; omega⟩
      · rw [if_neg hcap] at ht
        go_wp2_with fail
        go_quiet (fail)
        go_wp2_with fail
        go_ret3
        rw [HE2.out]
        cases e1.out
        exact ⟨q.drop _, _, _, rfl, by rw [List.length_drop]; rfl, by rw [List.length_drop]; exact ht.drewN _, Below.drewN' hb1 _, by rw [List.length_drop]; omega, by omega⟩

/-- What taking a number that may be below 0 hands back. -/
def RetInt (w : World) (r : Option (Nat × List UInt8)) (e : Ending) (w' : World) : Prop :=
  match r with
  | none => e = .returned (.tuple #[.int .i64 0, .slice none 0 0, .int .i64 2]) ∧ Below w.heap.size w w'
  | some (n, q) => ∃ (q' : List UInt8) (A : Option Addr) (c : Nat), Hid (q' = q) ∧ e = .returned (.tuple #[.int .i64 (zag n), .slice A q'.length c, .int .i64 0]) ∧ w'.ownsRow w.heap.size 5 1 (.slice A q'.length c) q'.length (bc q') ∧ Below w.heap.size w w' ∧ q'.length ≤ c ∧ c ≤ maxLen

theorem zag_runs (n : Nat) (h : n ≤ mostNum) : ∃ D : Int, Op.shift .shr .i64 (n : Int) .u64 1 = pure (.int .i64 D) ∧ bits .and .i64 (n : Int) 1 = ((n % 2 : Nat) : Int) ∧ bits .xor .i64 D (-((n % 2 : Nat) : Int)) = zag n := by
  unfold mostNum at h
  refine ⟨(n / 2 : Nat), ?_, i64_and_one n (by omega), ?_⟩
  · rw [shift_shr .i64 .u64 n 1 (by omega) (by decide)]
    congr 2
  · by_cases hz : n % 2 = 0
    · rw [hz]
      show bits .xor .i64 _ 0 = _
      rw [i64_xor_zero _ (by omega) (by omega)]
      unfold zag
      rw [if_pos hz]
    · have h1 : n % 2 = 1 := by omega
      rw [h1]
      show bits .xor .i64 _ (-1) = _
      rw [i64_xor_neg1 _ (by omega) (by omega)]
      unfold zag
      rw [if_neg hz]
      omega

set_option maxRecDepth 100000 in
set_option maxHeartbeats 400000 in
theorem TakeInt_calls (A : Option Addr) (l : List UInt8) (c : Nat) (w : World) (hr : Rd w w.heap.size 1 A l.length (bc l)) (hl : l.length ≤ 140737488355328) (hc : l.length ≤ c) :
    Calls Try.prog 26 #[.slice A l.length c] w (RetInt w (takeNum l)) := by
  cases ht : takeNum l with
  | none =>
    have HT := Lib.hid ht
    clear ht
    have hz1 : bits .and .i64 0 1 = 0 := by decide
    have hz2 : bits .xor .i64 0 0 = 0 := by decide
    go_enter Try.func26, Try.ntmps26
    go_wp2_with fail
    refine (TakeNum_calls A l c w hr hl hc).mono ?_
    intro e w1 h1
    rw [HT.out] at h1
    obtain ⟨rfl, hb1⟩ := h1
    go_wp2_with fail
    go_ret3
    exact ⟨rfl, hb1⟩
  | some p =>
    obtain ⟨n, q⟩ := p
    have hn := (num_takeNum ht).2
    obtain ⟨D, hz1, hz2, hz3⟩ := zag_runs n hn
    obtain ⟨r, hr2⟩ : ∃ r : Nat, r = n % 2 := ⟨_, rfl⟩
    have hr2' : (r : Int) ≤ 1 := by omega
    rw [← hr2] at hz2 hz3
    have HT := Lib.hid ht
    clear ht hn hr2
    go_enter Try.func26, Try.ntmps26
    go_wp2_with fail
    refine (TakeNum_calls A l c w hr hl hc).mono ?_
    intro e w1 h1
    rw [HT.out] at h1
    obtain ⟨q1, A1, c1, e1, rfl, h1, hb1, h2, h3⟩ := h1
    go_wp2_with fail
    go_ret3
    exact ⟨q1, A1, c1, e1, rfl, h1, hb1, h2, h3⟩

end Go.Proofs.Ytcefbhmmijmefaa
