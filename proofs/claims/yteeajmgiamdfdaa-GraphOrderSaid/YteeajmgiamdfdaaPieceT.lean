/- A piece of a slice of texts, as a fact on the operation's run: its address and its texts under names of their own. Conditions: as each lemma names. -/
import Derived.Test.YteeajmgiamdfdaaNd
import Derived.Test.YteeajmgiamdfdaaSeg2
namespace Go.Proofs.Yteeajmgiamdfdaa
open Go.RowKit Go.Dol
set_option linter.unusedVariables false
theorem pc_drop (l : List ByteArray) (k : Nat) : (pc l).drop k = pc (l.drop k) := by simp [pc]
theorem pc_take (l : List ByteArray) (k : Nat) : (pc l).take k = pc (l.take k) := by simp [pc]
theorem size_str (w : World) : (sizeOf (Try.prog.elem 26)).run Try.prog w = .ok 1 w := by kernel_rfl
section
variable {w : World} {B : Nat} {A : Option Addr} {l : List ByteArray} {c k : Nat}
/-- 'l[k:]'. -/
theorem slT_from (kI : Int) (hkI : kI = (k : Nat)) (hr : Rd w B 1 A l.length (pc l)) (hk : k ≤ l.length) (hc : l.length ≤ c) (hc2 : c ≤ maxLen) :
    ∃ (m : List ByteArray) (A' : Option Addr) (c' : Nat), Hid (m = l.drop k) ∧ m.length + k ≤ l.length ∧ l.length ≤ m.length + k ∧ Rd w B 1 A' m.length (pc m) ∧ c' + k = c ∧ segBlock A' = segBlock A ∧ Hid (∀ w0 base, Seg w0 base 9 1 A l.length c (pc l) → Seg w0 base 9 1 A' m.length c' (pc m)) ∧
      ∀ w' : World, (Instr.sliceAt 26 (.slice A l.length c) (some (.int .i64 kI)) none none).run Try.prog w' = .ok (.slice A' m.length c') w' := by
  subst hkI
  have h := hr.cut (lo := k) (hi := l.length) (cap := c) hk (Nat.le_refl _) hc
  have htk : (l.drop k).take (l.length - k) = l.drop k := List.take_of_length_le (by rw [List.length_drop]; exact Nat.le_refl _)
  rw [Nat.mul_one, Nat.mul_one, pc_drop, pc_take, htk] at h
  have hlen : (l.drop k).length = l.length - k := List.length_drop
  refine ⟨l.drop k, _, c - k, rfl, by omega, by omega, by rw [hlen]; exact h, by omega, ?_, ?_, fun w' => ?_⟩
  · split
    · rfl
    · exact segBlock_add A k
  · intro w0 base hs
    have := hs.cut (lo := k) (hi := l.length) hk (Nat.le_refl _)
    rw [Nat.mul_one, Nat.mul_one, pc_drop, pc_take, htk] at this
    rw [hlen]
    exact this
  · rw [run_sliceAt_slice _ _ _ _ _ _ (by kernel_rfl), run_slice_l _ _ _ _ _ (by kernel_rfl) _ _ (by omega) (by omega), size_str, hlen]
    simp [sliced, Result.andThen]
/-- 'l[:k]'. -/
theorem slT_to (kI : Int) (hkI : kI = (k : Nat)) (hr : Rd w B 1 A l.length (pc l)) (hk : k ≤ l.length) (hc : l.length ≤ c) (hc2 : c ≤ maxLen) :
    ∃ m : List ByteArray, Hid (m = l.take k) ∧ m.length ≤ k ∧ k ≤ m.length ∧ Rd w B 1 A m.length (pc m) ∧
      ∀ w' : World, (Instr.sliceAt 26 (.slice A l.length c) none (some (.int .i64 kI)) none).run Try.prog w' = .ok (.slice A m.length c) w' := by
  subst hkI
  have hlen : (l.take k).length = k := by rw [List.length_take]; omega
  have h := hr.cut (lo := 0) (hi := k) (cap := c) (Nat.zero_le _) hk hc
  simp only [Nat.mul_one, pc_take, List.drop_zero, Nat.sub_zero] at h
  refine ⟨l.take k, rfl, by omega, by omega, ?_, fun w' => ?_⟩
  · rw [hlen]
    split at h
    · exact h
    · have e : A.map (·.add 0) = A := by cases A with | none => rfl | some a => simp [Addr.add]
      rw [e] at h
      exact h
  · rw [run_sliceAt_slice _ _ _ _ _ _ (by kernel_rfl), run_slice_h _ _ _ _ _ (by kernel_rfl) _ _ (by omega) (by omega), size_str, hlen]
    cases A <;> simp [sliced, Result.andThen, Addr.add]
end
end Go.Proofs.Yteeajmgiamdfdaa
