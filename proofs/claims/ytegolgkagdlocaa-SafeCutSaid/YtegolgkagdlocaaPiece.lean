/- A piece of a slice of bytes, as a fact on the operation's run: its address and its bytes under names of their own. Conditions: as each lemma names. -/
import Derived.Test.YtegolgkagdlocaaU8
import Derived.Test.YtegolgkagdlocaaSeg2
namespace Go.Proofs.Ytegolgkagdlocaa
open Go.RowKit Go.Dol
set_option linter.unusedVariables false

/-- What a piece of bytes is: the bytes m at A', below block B. -/
def Piece (w : World) (B : Nat) (m : List UInt8) (A' : Option Addr) (c' : Nat) : Prop := Rd w B 1 A' m.length (bc m) ∧ m.length ≤ c' ∧ c' ≤ maxLen

theorem size_u8 (w : World) : (sizeOf (Try.prog.elem 23)).run Try.prog w = .ok 1 w := by kernel_rfl

section
variable {w : World} {B : Nat} {A : Option Addr} {l : List UInt8} {c k : Nat}
/-- 'l[lo:hi]'. -/
theorem sl_mid {lo hi : Nat} (loI hiI : Int) (hlo : loI = (lo : Nat)) (hhi : hiI = (hi : Nat)) (hr : Rd w B 1 A l.length (bc l)) (h1 : lo ≤ hi) (h2 : hi ≤ l.length) (hc : l.length ≤ c) (hc2 : c ≤ maxLen) :
    ∃ (m : List UInt8) (A' : Option Addr) (c' : Nat), Hid (m = (l.drop lo).take (hi - lo)) ∧ m.length + lo ≤ hi ∧ hi ≤ m.length + lo ∧ Piece w B m A' c' ∧ c' + lo = c ∧ segBlock A' = segBlock A ∧ Hid (∀ w0 base, Seg w0 base 5 1 A l.length c (bc l) → Seg w0 base 5 1 A' m.length c' (bc m)) ∧
      ∀ w' : World, (Instr.sliceAt 23 (.slice A l.length c) (some (.int .i64 loI)) (some (.int .i64 hiI)) none).run Try.prog w' = .ok (.slice A' m.length c') w' := by
  subst hlo
  subst hhi
  have h := hr.cut (lo := lo) (hi := hi) (cap := c) h1 h2 hc
  have hlen : ((l.drop lo).take (hi - lo)).length = hi - lo := by rw [List.length_take, List.length_drop]; omega
  rw [Nat.mul_one, Nat.mul_one, bc_drop, bc_take] at h
  refine ⟨(l.drop lo).take (hi - lo), _, c - lo, rfl, by omega, by omega, ⟨by rw [hlen]; exact h, by omega, by omega⟩, by omega, ?_, ?_, fun w' => ?_⟩
  · split
    · rfl
    · exact segBlock_add A lo
  · intro w0 base hs
    have := hs.cut (lo := lo) (hi := hi) h1 h2
    rw [Nat.mul_one, Nat.mul_one, bc_drop, bc_take] at this
    rw [hlen]
    exact this
  · rw [run_sliceAt_slice _ _ _ _ _ _ (by kernel_rfl), run_slice_lh _ _ _ _ _ (by kernel_rfl) _ _ _ _ (by omega) (by omega) (by omega), size_u8, hlen]
    simp [sliced, Result.andThen]
/-- 'l[k:]'. -/
theorem sl_from (kI : Int) (hkI : kI = (k : Nat)) (hr : Rd w B 1 A l.length (bc l)) (hk : k ≤ l.length) (hc : l.length ≤ c) (hc2 : c ≤ maxLen) :
    ∃ (m : List UInt8) (A' : Option Addr) (c' : Nat), Hid (m = l.drop k) ∧ m.length + k ≤ l.length ∧ l.length ≤ m.length + k ∧ Piece w B m A' c' ∧ c' + k = c ∧ segBlock A' = segBlock A ∧ Hid (∀ w0 base, Seg w0 base 5 1 A l.length c (bc l) → Seg w0 base 5 1 A' m.length c' (bc m)) ∧
      ∀ w' : World, (Instr.sliceAt 23 (.slice A l.length c) (some (.int .i64 kI)) none none).run Try.prog w' = .ok (.slice A' m.length c') w' := by
  subst hkI
  have h := hr.cut (lo := k) (hi := l.length) (cap := c) hk (Nat.le_refl _) hc
  have htk : (l.drop k).take (l.length - k) = l.drop k := List.take_of_length_le (by rw [List.length_drop]; exact Nat.le_refl _)
  rw [Nat.mul_one, Nat.mul_one, bc_drop, bc_take, htk] at h
  have hlen : (l.drop k).length = l.length - k := List.length_drop
  refine ⟨l.drop k, _, c - k, rfl, by omega, by omega, ⟨by rw [hlen]; exact h, by omega, by omega⟩, by omega, ?_, ?_, fun w' => ?_⟩
  · split
    · rfl
    · exact segBlock_add A k
  · intro w0 base hs
    have := hs.cut (lo := k) (hi := l.length) hk (Nat.le_refl _)
    rw [Nat.mul_one, Nat.mul_one, bc_drop, bc_take, htk] at this
    rw [hlen]
    exact this
  · rw [run_sliceAt_slice _ _ _ _ _ _ (by kernel_rfl), run_slice_l _ _ _ _ _ (by kernel_rfl) _ _ (by omega) (by omega), size_u8, hlen]
    simp [sliced, Result.andThen]
/-- 'l[:k]'. -/
theorem sl_to (kI : Int) (hkI : kI = (k : Nat)) (hr : Rd w B 1 A l.length (bc l)) (hk : k ≤ l.length) (hc : l.length ≤ c) (hc2 : c ≤ maxLen) :
    ∃ m : List UInt8, Hid (m = l.take k) ∧ m.length ≤ k ∧ k ≤ m.length ∧ Piece w B m A c ∧ Hid (∀ w0 base, Seg w0 base 5 1 A l.length c (bc l) → Seg w0 base 5 1 A m.length c (bc m)) ∧
      ∀ w' : World, (Instr.sliceAt 23 (.slice A l.length c) none (some (.int .i64 kI)) none).run Try.prog w' = .ok (.slice A m.length c) w' := by
  subst hkI
  have hlen : (l.take k).length = k := by rw [List.length_take]; omega
  refine ⟨l.take k, rfl, by omega, by omega, ⟨by rw [hlen]; exact hr.head hk, by omega, hc2⟩, ?_, fun w' => ?_⟩
  · intro w0 base hs
    have := hs.cut (lo := 0) (hi := k) (Nat.zero_le _) hk
    simp only [Nat.mul_one, bc_take, List.drop_zero, Nat.sub_zero] at this
    rw [hlen]
    split at this
    · exact this
    · have e : A.map (·.add 0) = A := by cases A with | none => rfl | some a => simp [Addr.add]
      rw [e] at this
      exact this
  · rw [run_sliceAt_slice _ _ _ _ _ _ (by kernel_rfl), run_slice_h _ _ _ _ _ (by kernel_rfl) _ _ (by omega) (by omega), size_u8, hlen]
    cases A <;> simp [sliced, Result.andThen, Addr.add]
end
end Go.Proofs.Ytegolgkagdlocaa
