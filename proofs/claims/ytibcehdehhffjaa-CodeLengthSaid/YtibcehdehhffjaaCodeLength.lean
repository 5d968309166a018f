/- The walk of the law CodeLength. Conditions: none. -/
import Derived.Test.YtibcehdehhffjaaCodeAwake
namespace Go.Proofs.Ytibcehdehhffjaa
open Go.RowKit Go.Dol
set_option linter.unusedVariables false

/-- All but the last group go on. -/
theorem num_more (n : Nat) : ∀ (i : Nat) (h : i < (num n).length), (128 ≤ ((num n)[i]).toNat ↔ i + 1 < (num n).length) := by
  induction n using Nat.strongRecOn with
  | _ n ih =>
    intro i h
    by_cases hn : n < 128
    · have e := num_lt hn
      have hl : (num n).length = 1 := by rw [e]; rfl
      have hi : i = 0 := by omega
      subst hi
      have hx : (num n)[0] = UInt8.ofNat n := by simp only [e]; rfl
      rw [hx, UInt8.toNat_ofNat']
      omega
    · have e := num_ge (n := n) (by omega)
      have hl : (num n).length = (num (n / 128)).length + 1 := by rw [e]; simp
      have hp := num_pos (n / 128)
      cases i with
      | zero =>
        have hx : (num n)[0] = UInt8.ofNat (128 + n % 128) := by simp only [e]; rfl
        rw [hx, UInt8.toNat_ofNat']
        omega
      | succ j =>
        have hx : (num n)[j + 1] = (num (n / 128))[j]'(by omega) := by simp only [e]; rfl
        rw [hx, ih (n / 128) (by omega) j (by omega)]
        omega

def LenRel (N : Nat) (k v : Value) : Prop := ∃ m j : Nat, k = .int .i64 m ∧ v = .int .i64 j ∧ j ≤ 10 ∧ Hid (m ≤ mostNum ∧ (num m).length + j = (num N).length + 1)

set_option maxRecDepth 100000 in
set_option maxHeartbeats 400000 in
theorem codeLength_walk (n : Int) (w : World) (hn : (Lit.int .i64 n).wf = true) :
    Calls Try.prog 4 #[.int .i64 n] w fun e w' => e = .returned (.bool true) ∧ Below w.heap.size w w' := by
  clear hn
  obtain ⟨M, hM1, hM2⟩ := clamp_runs n
  obtain ⟨N, hNe⟩ : ∃ N, N = clampN n := ⟨_, rfl⟩
  have HN : Hid (N ≤ mostNum) := by rw [hNe]; exact clampN_le n
  have HNe := Lib.hid hNe
  rw [← hNe] at hM2
  clear hNe
  go_enter Try.func4, Try.ntmps4
  go_wp2_with fail
  refine (awake_calls w).mono ?_
  rintro e w1 ⟨rfl, hb1⟩
  go_wp2_with fail
  refine (PutNum_calls none [] 0 _ w1 Rd.nil (by decide)).mono ?_
  rintro e w2 ⟨l1, A1, c1, e1, rfl, h1, hb2, h2, h3⟩
  have E1 : Hid (l1 = num N) := by have := e1.out; rwa [List.nil_append, ← HNe.out] at this
  clear e1
  have hl9 : Hid (l1.length ≤ 9) := by unfold Hid; rw [E1.out]; exact num_length_le 8 N (by have := HN.out; unfold mostNum at this; omega)
  go_wp2_with fail
  go_loop [5, 6] (fun k v => LenRel N k v) (fun k _ => (intOf k).toNat)
  case atStart => exact ⟨N, 1, rfl, rfl, by omega, HN.out, rfl⟩
  case round =>
    obtain ⟨m, j, rfl, rfl, hj, hmj⟩ := hrel
    have hmi : (m : Int) ≤ 4611686018427387903 := by have := hmj.out.1; unfold mostNum at this; omega
    by_cases hm : 128 ≤ m
    · have hm2 : (128 : Int) ≤ m := by omega
      go_wp2_with fail
      refine ⟨⟨m / 128, j + 1, by go_num, by go_num, ?_, ?_⟩, by simp [intOf]; omega⟩
      · have h2 := hmj.out.2
        rw [num_ge hm, List.length_cons] at h2
        have h4 := num_pos (m / 128)
        have h5 := hl9.out
        rw [E1.out] at h5
        omega
      · have h2 := hmj.out.2
        rw [num_ge hm, List.length_cons] at h2
        exact ⟨by have := hmj.out.1; omega, by omega⟩
    · have hm2 : (m : Int) < 128 := by omega
      have hjl : Hid (j = l1.length) := by
        have h2 := hmj.out.2
        rw [num_lt (by omega)] at h2
        unfold Hid
        rw [E1.out]
        simp only [List.length_cons, List.length_nil] at h2
        omega
      go_wp2_with fail
      go_loop [7] (fun i => ∃ k : Nat, i = .int .i64 k ∧ k ≤ l1.length) (fun i => l1.length - (intOf i).toNat)
      case atStart => exact ⟨0, rfl, Nat.zero_le _⟩
      case round =>
        obtain ⟨k, rfl, hk⟩ := hrel
        have hl9' := hl9.out
        by_cases hlt : k < l1.length
        · obtain ⟨b, off, rfl, hb, hcell⟩ := (Rd.of_own h1).at_ (by omega)
          have hcx := hcell k _ (bc_get l1 k hlt)
          clear hcell
          obtain ⟨x, hx⟩ : ∃ x, x = (l1[k]).toNat := ⟨_, rfl⟩
          rw [← hx] at hcx
          have hiff : 128 ≤ x ↔ k + 1 < l1.length := by
            have e := E1.out
            subst e
            rw [hx]
            exact num_more N k hlt
          clear hx
          by_cases hl2 : k + 1 < l1.length
          · have hx2 : decide ((128 : Int) ≤ x) = true := by have := hiff.2 hl2; simp; omega
            have hd2 : decide ((k : Int) + 1 < l1.length) = true := by simp; omega
            clear hiff
            go_wp2_with fail
            exact ⟨⟨k + 1, by go_num, by omega⟩, by simp [intOf]; omega⟩
          · have hx2 : decide ((128 : Int) ≤ x) = false := by
              have : ¬ 128 ≤ x := fun h => hl2 (hiff.1 h)
              simp
              omega
            have hd2 : decide ((k : Int) + 1 < l1.length) = false := by simp; omega
            clear hiff
            go_wp2_with fail
            exact ⟨⟨k + 1, by go_num, by omega⟩, by simp [intOf]; omega⟩
        · have hfin : ((l1.length : Int) == (j : Int)) = true := by rw [hjl.out]; simp
          go_wp2_with fail
          go_ret
          exact ⟨rfl, hb1.trans (hb2.mono hb1.size)⟩
end Go.Proofs.Ytibcehdehhffjaa
