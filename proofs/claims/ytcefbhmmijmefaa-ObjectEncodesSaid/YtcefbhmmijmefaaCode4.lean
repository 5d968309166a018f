/- The walks of the layer 'code', its fourth part: taking numbers and texts. Conditions: bytes that are made fit 2^47. -/
import Derived.Test.YtcefbhmmijmefaaCode3
namespace Go.Proofs.Ytcefbhmmijmefaa
open Go.RowKit Go.Dol

/-- The loop of TakeNum at its head: k groups have gone by, none was the last. -/
def TakeRel (l : List UInt8) (n used i : Value) : Prop :=
  ∃ k m : Nat, n = .int .u64 m ∧ used = .int .i64 0 ∧ i = .int .i64 k ∧ Pre l k ∧ k ≤ 9 ∧ Hid (m = acc (l.take k))

set_option maxRecDepth 100000 in
set_option maxHeartbeats 400000 in
theorem TakeNum_calls (A : Option Addr) (l : List UInt8) (c : Nat) (w : World) (hr : Rd w w.heap.size 1 A l.length (bc l)) (hl : l.length ≤ 140737488355328) (hc : l.length ≤ c) :
    Calls Try.prog 22 #[.slice A l.length c] w (RetTake 5 w (takeNum l)) := by
  go_enter Try.func22, Try.ntmps22
  go_wp2_with fail
  go_step3
  go_wp2_with fail
  go_step3
  go_wp2_with fail
  go_loop [5, 6, 11] (fun n used i => TakeRel l n used i) (fun _ _ i => 9 - (intOf i).toNat)
  case atStart => exact ⟨0, 0, rfl, rfl, rfl, Pre.zero l, by omega, by simp [Hid, acc]⟩
  case round =>
    obtain ⟨k, m, rfl, rfl, rfl, hp, hk9, hm⟩ := hrel
    have hkl := hp.1
    have HP := Lib.hid hp
    clear hp
    by_cases hlt : k < l.length
    · obtain ⟨b, off, rfl, hb, hcell⟩ := hr.at_ (by omega)
      have hcx := hcell k _ (bc_get l k hlt)
      obtain ⟨x, hx⟩ : ∃ x, x = (l[k]).toNat := ⟨_, rfl⟩
      have hx256 : x < 256 := by have := (l[k]).toNat_lt; omega
      rw [← hx] at hcx
      have HX := Lib.hid hx
      clear hx hcell
      by_cases h9 : k = 9
      · subst h9
        go_wp2_with fail
        go_ret3
        rw [takeNum_long HP.out]
        exact ⟨rfl, Below.refl _ _⟩
      · have hk8 : k < 9 := by omega
        clear h9 hk9
        by_cases hx128 : x < 128
        · by_cases hxk : x = 0 ∧ 0 < k
          · obtain ⟨hx0, hk0⟩ := hxk
            have HX0 := Lib.hid hx0
            have hxi : (x : Int) < 1 := by omega
            have hki : (0 : Int) < k := by omega
            clear hx0
            go_wp2_with fail
            go_ret3
            rw [takeNum_nought HP.out hlt hk8 hk0 (by rw [← HX.out]; exact HX0.out)]
            exact ⟨rfl, Below.refl _ _⟩
          · have hax : bits .and .u8 (x : Int) 127 = (x : Int) := by rw [u8_and127 x hx256, Nat.mod_eq_of_lt hx128]
            obtain ⟨z, m', hz1, hz2, hz3⟩ := u64_group m x k hk8 (by rw [hm.out]; exact acc_take_lt l k hkl) hx128
            have hm' : m' = acc (l.take (k + 1)) := by rw [acc_step hlt, hz3, hm.out, ← HX.out, Nat.mod_eq_of_lt hx128]
            have HT : Hid (takeNum l = if m' ≤ mostNum then some (m', l.drop (k + 1)) else none) := by
              have := takeNum_at HP.out hlt hk8 (by rw [← HX.out]; exact hx128) (by rw [← HX.out]; omega)
              rwa [← hm'] at this
            clear hz3 hm'
            have hxc : x = 0 ∧ k = 0 ∨ 1 ≤ x := by omega
            clear hxk
            rcases hxc with ⟨hx0, hk0⟩ | hx1
            · have hxi : (x : Int) < 1 := by omega
              have hki : (k : Int) < 1 := by omega
              have hk1 : ((k : Int) + 1 == 0) = false := beq_eq_false_iff_ne.2 (by omega)
              have hax0 : bits .and .u8 0 127 = 0 := by decide
              have hz20 : bits .or .u64 (m : Int) 0 = (m' : Int) := by
                rw [hx0] at hz1
                have h0 : (0 : Int) = z := by rw [← hz1]; simp [IntKind.wrap_u64]
                rw [← hz2, ← h0]
              clear hx0 hk0 hax hz1 hz2
              by_cases hmm : m' ≤ mostNum
              · have hmi : decide ((4611686018427387903 : Int) < m') = false := by unfold mostNum at hmm; simp; omega
                have hmj : (m' : Int) ≤ 4611686018427387903 := by unfold mostNum at hmm; omega
                have ht := hr.tail (k := k + 1) hlt hc
                have HT2 : Hid (takeNum l = some (m', l.drop (k + 1))) := by have := HT.out; rwa [if_pos hmm] at this
                clear hmm HT
                by_cases hcap : c = k + 1
                · rw [if_pos hcap] at ht
                  have HC := Lib.hid hcap
                  go_wp2_with fail
                  refine (Clone_cut _ (l.drop (k + 1)) _ _ w (by simp) ht (by omega)).mono ?_
                  rintro e w1 ⟨l1, A1, c1, e1, rfl, h1, hb1, h2, h3⟩
                  go_wp2_with fail
                  go_ret3
                  rw [HT2.out]
                  exact ⟨l1, A1, c1, e1, rfl, h1, hb1, h2, h3⟩
                · rw [if_neg hcap] at ht
                  have ht' : Rd w w.heap.size 1 (some ⟨b, off + (k + 1), none⟩) (l.length - (k + 1)) (bc (l.drop (k + 1))) := by simpa [Addr.add_lit] using ht
                  clear ht
                  go_wp2_with fail
                  refine (Clone_cut _ (l.drop (k + 1)) _ _ w (by simp) ht' (by omega)).mono ?_
                  rintro e w1 ⟨l1, A1, c1, e1, rfl, h1, hb1, h2, h3⟩
                  go_wp2_with fail
                  go_ret3
                  rw [HT2.out]
                  exact ⟨l1, A1, c1, e1, rfl, h1, hb1, h2, h3⟩
              · have hmi : decide ((4611686018427387903 : Int) < m') = true := by unfold mostNum at hmm; simp; omega
                have HT2 : Hid (takeNum l = none) := by have := HT.out; rwa [if_neg hmm] at this
                clear hmm HT
                go_wp2_with fail
                go_ret3
                rw [HT2.out]
                exact ⟨rfl, Below.refl _ _⟩
            · have hxi : (1 : Int) ≤ x := by omega
              have hxj : (x : Int) < 128 := by omega
              have hk1 : ((k : Int) + 1 == 0) = false := beq_eq_false_iff_ne.2 (by omega)
              clear hx1
              by_cases hmm : m' ≤ mostNum
              · have hmi : decide ((4611686018427387903 : Int) < m') = false := by unfold mostNum at hmm; simp; omega
                have hmj : (m' : Int) ≤ 4611686018427387903 := by unfold mostNum at hmm; omega
                have ht := hr.tail (k := k + 1) hlt hc
                have HT2 : Hid (takeNum l = some (m', l.drop (k + 1))) := by have := HT.out; rwa [if_pos hmm] at this
                clear hmm HT
                by_cases hcap : c = k + 1
                · rw [if_pos hcap] at ht
                  have HC := Lib.hid hcap
                  go_wp2_with fail
                  refine (Clone_cut _ (l.drop (k + 1)) _ _ w (by simp) ht (by omega)).mono ?_
                  rintro e w1 ⟨l1, A1, c1, e1, rfl, h1, hb1, h2, h3⟩
                  go_wp2_with fail
                  go_ret3
                  rw [HT2.out]
                  exact ⟨l1, A1, c1, e1, rfl, h1, hb1, h2, h3⟩
                · rw [if_neg hcap] at ht
                  have ht' : Rd w w.heap.size 1 (some ⟨b, off + (k + 1), none⟩) (l.length - (k + 1)) (bc (l.drop (k + 1))) := by simpa [Addr.add_lit] using ht
                  clear ht
                  go_wp2_with fail
                  refine (Clone_cut _ (l.drop (k + 1)) _ _ w (by simp) ht' (by omega)).mono ?_
                  rintro e w1 ⟨l1, A1, c1, e1, rfl, h1, hb1, h2, h3⟩
                  go_wp2_with fail
                  go_ret3
                  rw [HT2.out]
                  exact ⟨l1, A1, c1, e1, rfl, h1, hb1, h2, h3⟩
              · have hmi : decide ((4611686018427387903 : Int) < m') = true := by unfold mostNum at hmm; simp; omega
                have HT2 : Hid (takeNum l = none) := by have := HT.out; rwa [if_neg hmm] at this
                clear hmm HT
                go_wp2_with fail
                go_ret3
                rw [HT2.out]
                exact ⟨rfl, Below.refl _ _⟩
        · have hax : bits .and .u8 (x : Int) 127 = ((x % 128 : Nat) : Int) := u8_and127 x hx256
          obtain ⟨y, hy⟩ : ∃ y, y = x % 128 := ⟨_, rfl⟩
          have hy128 : y < 128 := by omega
          rw [← hy] at hax
          have HY := Lib.hid hy
          clear hy
          obtain ⟨z, m', hz1, hz2, hz3⟩ := u64_group m y k hk8 (by rw [hm.out]; exact acc_take_lt l k hkl) hy128
          have hm' : Hid (m' = acc (l.take (k + 1))) := by unfold Hid; rw [acc_step hlt, hz3, hm.out, ← HX.out, ← HY.out]
          clear hz3
          have hxi : (128 : Int) ≤ x := by omega
          have HP' : Hid (Pre l (k + 1)) := HP.out.succ hlt (by rw [← HX.out]; omega)
          go_wp2_with fail
          exact ⟨⟨k + 1, m', rfl, rfl, by go_num, HP'.out, by omega, hm'⟩, by simp [intOf]; omega⟩
    · have hkk : k = l.length := by omega
      have HK := Lib.hid hkk
      clear hkk
      go_wp2_with fail
      go_ret3
      rw [takeNum_end (by have := HP.out; rwa [HK.out] at this)]
      exact ⟨rfl, Below.refl _ _⟩
end Go.Proofs.Ytcefbhmmijmefaa
