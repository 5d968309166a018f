/- The walks of the layer 'sum', its ninth part: what digits are worth. Conditions: bytes that are made fit 2^47. -/
import Derived.Test.YtcefbhmmijmefaaSum8
namespace Go.Dol
/-- What a digit is worth; below nought: it is none. -/
def digV (x : Nat) : Int := if 48 ≤ x ∧ x ≤ 57 then (x : Int) - 48 else if 97 ≤ x ∧ x ≤ 102 then (x : Int) - 87 else -1
theorem digV_dig (k : Nat) (hk : k < 16) : digV (dig k).toNat = k := by
  have h : ∀ i : Fin 16, digV (dig i.val).toNat = i.val := by decide
  exact h ⟨k, hk⟩
theorem digV_none (x : Nat) (hx : x < 256) (h : ∀ j, j < 16 → (dig j).toNat ≠ x) : digV x = -1 := by
  have h' : ∀ i : Fin 256, (∀ j : Fin 16, (dig j.val).toNat ≠ i.val) → digV i.val = -1 := by decide +kernel
  exact h' ⟨x, hx⟩ (fun j => h j.val j.isLt)
end Go.Dol
namespace Go.Proofs.Ytcefbhmmijmefaa
open Go.RowKit Go.Dol
set_option linter.unusedVariables false

set_option maxRecDepth 100000 in
set_option maxHeartbeats 400000 in
theorem digit_calls (x : Nat) (hx : x < 256) (w : World) :
    Calls Try.prog 57 #[.int .u8 x] w fun e w' => e = .returned (.int .i64 (digV x)) ∧ w = w' := by
  go_enter Try.func57, Try.ntmps57
  go_wp2_with fail
  go_loop [3] (fun i => ∃ k : Nat, i = .int .i64 k ∧ k ≤ 16 ∧ Hid (∀ j, j < k → (dig j).toNat ≠ x)) (fun i => 16 - (intOf i).toNat)
  case atStart => exact ⟨0, rfl, by omega, fun j hj => by omega⟩
  case round =>
    obtain ⟨k, rfl, hk, hno⟩ := hrel
    by_cases hlt : k < 16
    · have hki : (k : Int) < 16 := by omega
      have hd := digits_at k hlt
      obtain ⟨y, hy⟩ : ∃ y, y = (dig k).toNat := ⟨_, rfl⟩
      have HY := Lib.hid hy
      have hdy : ∀ h : k < (⟨#[48, 49, 50, 51, 52, 53, 54, 55, 56, 57, 97, 98, 99, 100, 101, 102]⟩ : ByteArray).size, ((⟨#[48, 49, 50, 51, 52, 53, 54, 55, 56, 57, 97, 98, 99, 100, 101, 102]⟩ : ByteArray)[k]'h).toNat = y := fun h => by rw [hd h, HY.out]
      clear hy hd
      by_cases he : y = x
      · have HE := Lib.hid he
        have heq : ((y : Int) == (x : Int)) = true := by simp [he]
        have hde : decide ((y : Int) = (x : Int)) = true := by simp [he]
        have hdn : decide (y = x) = true := by simp [he]
        clear he
        go_wp2_with fail
        go_ret
        have := digV_dig k hlt
        rw [← HY.out, HE.out] at this
        exact ⟨by rw [this]; rfl, rfl⟩
      · have HE := Lib.hid he
        have heq : ((y : Int) == (x : Int)) = false := by simp; omega
        have hde : decide ((y : Int) = (x : Int)) = false := by simp; omega
        have hdn : decide (y = x) = false := by simp [he]
        go_wp2_with fail
        refine ⟨⟨k + 1, by go_num, hlt, ?_⟩, by simp [intOf]; omega⟩
        intro j hj
        by_cases hjk : j = k
        · rw [hjk, ← HY.out]
          exact HE.out
        · exact hno.out j (by omega)
    · have hk16 : k = 16 := by omega
      have hv : digV x = -1 := digV_none x hx (fun j hj => hno.out j (by omega))
      have hki : ¬ (k : Int) < 16 := by omega
      go_wp2_with fail
      go_ret
      exact ⟨rfl, rfl⟩
end Go.Proofs.Ytcefbhmmijmefaa
