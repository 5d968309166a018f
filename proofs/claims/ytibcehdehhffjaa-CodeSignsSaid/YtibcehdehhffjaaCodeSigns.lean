/- The walk of the law CodeSigns. Conditions: none. -/
import Derived.Test.YtibcehdehhffjaaCodeAwake
import Derived.Test.YtibcehdehhffjaaWords2
namespace Go.Proofs.Ytibcehdehhffjaa
open Go.RowKit Go.Dol
set_option linter.unusedVariables false

theorem num_inj {a b : Nat} (ha : a ≤ mostNum) (hb : b ≤ mostNum) (h : num a = num b) : a = b := by
  have h1 := takeNum_num a [] ha
  have h2 := takeNum_num b [] hb
  rw [h] at h1
  rw [h1] at h2
  exact (Prod.mk.inj (Option.some.inj h2)).1
theorem zig_inj {a b : Int} (h : zig a = zig b) : a = b := by rw [← zag_zig a, h, zag_zig]
theorem str_toList (l : List UInt8) : (⟨l.toArray⟩ : ByteArray).toList = l := by rw [ByteArray.toList_eq]

def clamp60 (n : Int) : Int := min (max n (-1152921504606846976)) 1152921504606846976
theorem clamp60_runs (n : Int) : ∃ M : Int, (∀ w : World, (Builtin.max_ #[3, 3] 3 #[.int .i64 n, .int .i64 (-1152921504606846976)]).run Try.prog w = .ok (.int .i64 M) w) ∧
    (∀ w : World, (Builtin.min_ #[3, 3] 3 #[.int .i64 M, .int .i64 1152921504606846976]).run Try.prog w = .ok (.int .i64 (clamp60 n)) w) := by
  refine ⟨if -1152921504606846976 > n then -1152921504606846976 else n, fun w => run_max_int2 _ _ _ _ _ _ _, fun w => ?_⟩
  rw [run_min_int2]
  congr 2
  unfold clamp60
  split <;> split <;> omega
theorem clamp60_range (n : Int) : -1152921504606846976 ≤ clamp60 n ∧ clamp60 n ≤ 1152921504606846976 := by unfold clamp60; omega
theorem clampI_60 {K : Int} (h1 : -1152921504606846976 ≤ K) (h2 : K ≤ 1152921504606846976) : clampI K = K := by unfold clampI; omega

set_option maxRecDepth 100000 in
set_option maxHeartbeats 400000 in
theorem codeSigns_walk (n m : Int) (w : World) (hn : (Lit.int .i64 n).wf = true) (hm : (Lit.int .i64 m).wf = true) :
    Calls Try.prog 5 #[.int .i64 n, .int .i64 m] w fun e w' => e = .returned (.bool true) ∧ Below w.heap.size w w' := by
  clear hn hm
  obtain ⟨M, hM1, hM2⟩ := clamp60_runs n
  obtain ⟨M', hM3, hM4⟩ := clamp60_runs m
  have hK := clamp60_range n
  have hK' := clamp60_range m
  obtain ⟨K, hKe⟩ : ∃ K, K = clamp60 n := ⟨_, rfl⟩
  obtain ⟨K', hKe'⟩ : ∃ K', K' = clamp60 m := ⟨_, rfl⟩
  rw [← hKe] at hM2 hK
  rw [← hKe'] at hM4 hK'
  clear hKe hKe'
  obtain ⟨hk1, hk2⟩ := hK
  obtain ⟨hk3, hk4⟩ := hK'
  have hc1 : Hid (clampI K = K) := clampI_60 hk1 hk2
  have hc2 : Hid (clampI K' = K') := clampI_60 hk3 hk4
  have hc3 : Hid (clampI (-K) = -K) := clampI_60 (by omega) (by omega)
  have hz1 : Hid (zig K ≤ mostNum) := zig_most (by omega) (by omega)
  have hz2 : Hid (zig K' ≤ mostNum) := zig_most (by omega) (by omega)
  have hz3 : Hid (zig (-K) ≤ mostNum) := zig_most (by omega) (by omega)
  go_enter Try.func5, Try.ntmps5
  go_wp2_with fail
  refine (awake_calls w).mono ?_
  rintro e w0 ⟨rfl, hb0⟩
  go_wp2_with fail
  refine (PutInt_calls none [] 0 _ w0 Rd.nil (by decide)).mono ?_
  rintro e w1 ⟨l1, A1, c1, e1, rfl, h1, hb1, h2, h3⟩
  have E1 : Hid (l1 = num (zig K)) := by have := e1.out; rwa [List.nil_append, hc1.out] at this
  clear e1
  have hv1 : (convert 22 9 (.slice A1 l1.length c1)).run Try.prog w1 = .ok (.string ⟨l1.toArray⟩) w1 := conv8f (Rd.of_own h1)
  go_wp2_with fail
  clear hv1 h1
  refine (PutInt_calls none [] 0 _ w1 Rd.nil (by decide)).mono ?_
  rintro e w2 ⟨l2, A2, c2, e2, rfl, g1, hb2, g2, g3⟩
  have E2 : Hid (l2 = num (zig K')) := by have := e2.out; rwa [List.nil_append, hc2.out] at this
  clear e2
  have hv2 : (convert 22 9 (.slice A2 l2.length c2)).run Try.prog w2 = .ok (.string ⟨l2.toArray⟩) w2 := conv8f (Rd.of_own g1)
  go_wp2_with fail
  clear hv2 g1
  refine (PutInt_calls none [] 0 _ w2 Rd.nil (by decide)).mono ?_
  rintro e w3 ⟨l3, A3, c3, e3, rfl, k1, hb3, k2, k3⟩
  have E3 : Hid (l3 = num (zig (-K))) := by have := e3.out; rwa [List.nil_append, hc3.out] at this
  clear e3
  have hv3 : (convert 22 9 (.slice A3 l3.length c3)).run Try.prog w3 = .ok (.string ⟨l3.toArray⟩) w3 := conv8f (Rd.of_own k1)
  have hl9 : l1.length ≤ 9 := by rw [E1.out]; exact num_length_le 8 _ (by have := hz1.out; unfold mostNum at this; omega)
  have hsz : (⟨l1.toArray⟩ : ByteArray).size = l1.length := by simp [ByteArray.size]
  go_wp2_with (refine wpList_conv_sb rfl (.tmp 32) _ _ _ rfl Try.underlying9 Try.underlying22 Try.underlying5 ⟨l1.toArray⟩ rfl (by rw [hsz]; omega) ?_)
  intro A4 c4 w4 p1 hb4 p2 p3
  clear hv3 k1
  go_wp2_with fail
  have HT : Hid (takeNum l1 = some (zig K, [])) := by
    have := takeNum_num (zig K) [] hz1.out
    rwa [List.append_nil, ← E1.out] at this
  refine (TakeInt_calls A4 l1 c4 w4 p1 (by omega) p2).mono ?_
  intro e w5 h5
  rw [HT.out] at h5
  obtain ⟨q5, A5, c5, e5, rfl, r1, hb5, r2, r3⟩ := h5
  have hq5 : q5 = [] := e5.out
  subst hq5
  rw [zag_zig]
  have s0 := hb0.size
  have s1 := hb1.size
  have s2 := hb2.size
  have s3 := hb3.size
  have s4 := hb4.size
  have hbel : Hid (Below w.heap.size w w5) := ((((hb0.trans (hb1.mono s0)).trans (hb2.mono (by omega))).trans (hb3.mono (by omega))).trans (hb4.mono (by omega))).trans (hb5.mono (by omega))
  have hne12 : K ≠ K' → l1 ≠ l2 := fun hne he => hne (zig_inj (num_inj hz1.out hz2.out (by rw [← E1.out, ← E2.out, he])))
  have hne13 : K ≠ 0 → l1 ≠ l3 := fun hne he => by
    have := zig_inj (num_inj hz1.out hz3.out (by rw [← E1.out, ← E3.out, he]))
    omega
  clear hM1 hM2 hM3 hM4 hb0 hb1 hb2 hb3 hb4 hb5 s0 s1 s2 s3 s4 r1 p1 HT hk1 hk2 hk3 hk4 hsz
  have hf12 : K ≠ K' → (l1 == l2) = false := fun hne => by simpa using hne12 hne
  have hf13 : K ≠ 0 → (l1 == l3) = false := fun hne => by simpa using hne13 hne
  have ht12 : K = K' → l2 = l1 := fun he => by rw [E1.out, E2.out, he]
  have ht13 : K = 0 → l3 = l1 := fun he => by rw [E1.out, E3.out, he]; rfl
  clear hne12 hne13
  by_cases hKK : K = K'
  · obtain rfl := ht12 hKK
    subst hKK
    clear ht12 hf12
    by_cases h0 : K = 0
    · obtain rfl := ht13 h0
      subst h0
      clear ht13 hf13
      go_wp2_with fail
      go_ret
      exact ⟨rfl, hbel.out⟩
    · have hf := hf13 h0
      have hK0 : (K == 0) = false := beq_eq_false_iff_ne.2 h0
      clear ht13 hf13 h0
      go_wp2_with fail
      go_ret
      exact ⟨rfl, hbel.out⟩
  · have hf := hf12 hKK
    have hK1 : (K == K') = false := beq_eq_false_iff_ne.2 hKK
    clear ht12 hf12 hKK
    by_cases h0 : K = 0
    · obtain rfl := ht13 h0
      subst h0
      clear ht13 hf13
      go_wp2_with fail
      go_ret
      exact ⟨rfl, hbel.out⟩
    · have hf' := hf13 h0
      have hK0 : (K == 0) = false := beq_eq_false_iff_ne.2 h0
      clear ht13 hf13 h0
      go_wp2_with fail
      go_ret
      exact ⟨rfl, hbel.out⟩
end Go.Proofs.Ytibcehdehhffjaa
