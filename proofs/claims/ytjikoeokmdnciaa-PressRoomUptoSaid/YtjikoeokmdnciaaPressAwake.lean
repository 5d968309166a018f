/- The document's example, which stands at the head of each statement of layer 'press'. Conditions: none. -/
import Derived.Test.YtjikoeokmdnciaaPress11
import Derived.Test.YtjikoeokmdnciaaPress7
import Derived.Test.YtjikoeokmdnciaaPressLaw
import Derived.Test.YtjikoeokmdnciaaCodeN
import Derived.Lib.SmallJoins
namespace Go.Proofs.Ytjikoeokmdnciaa
open Go.RowKit Go.Dol
set_option linter.unusedVariables false

theorem open_ex8 : openL [8, 0, 97, 7, 1] 8 = some [97, 97, 97, 97, 97, 97, 97, 97] := by decide +kernel
theorem open_ex7 : openL [8, 0, 97, 7, 1] 7 = none := by decide +kernel
theorem press_ex : pressL [97, 97, 97, 97, 97, 97, 97, 97] = [8, 0, 97, 7, 1] := by
  have l0 : longest [97, 97, 97, 97, 97, 97, 97, 97] 0 = (0, 0) := by decide +kernel
  have l1 : longest [97, 97, 97, 97, 97, 97, 97, 97] 1 = (7, 1) := by decide +kernel
  unfold pressL
  rw [press_next (by decide) (by rw [l0]; decide), press_copy (by decide) (by rw [l1]; decide), l1, press_end (by decide)]
  have n8 : num 8 = [8] := by rw [num_lt (by decide)]; rfl
  have n7 : num 7 = [7] := by rw [num_lt (by decide)]; rfl
  have n1 : num 1 = [1] := by rw [num_lt (by decide)]; rfl
  have n0 : num 0 = [0] := by rw [num_lt (by decide)]; rfl
  simp [runB, n8, n7, n1, n0]
theorem Rd.lit (w : World) (T : TypeId) (fr : Nat × Nat) (l : List UInt8) : Rd (w.alloc (.cells (bc l).toArray T fr)) (w.heap.size + 1) 1 (some ⟨w.heap.size, 0, none⟩) l.length (bc l) := by
  refine ⟨by simp [bc], fun _ => ⟨w.heap.size, 0, rfl, by omega, fun j u hu => ?_⟩⟩
  have := World.cell?_alloc_mark w (bc l).toArray T fr j
  rw [Nat.zero_add, this]
  simpa using hu

set_option maxRecDepth 100000 in
set_option maxHeartbeats 400000 in
theorem awake_calls (w : World) : Calls Try.prog 26 #[] w fun e w' => e = .returned (.bool true) ∧ Below w.heap.size w w' := by
  have kc := fun (w : World) (C : Array Value) (n c : Nat) => Lib.run_convert_bytes_const (P := Try.prog) w 22 5 C n c Try.underlying22 Try.underlying5
  go_enter Try.func26, Try.ntmps26
  go_wp2_with fail
  have hr0 := Rd.lit w 5 (0, 0) [8, 0, 97, 7, 1]
  have hb0 : Below w.heap.size w (w.alloc (.cells #[.int .u8 8, .int .u8 0, .int .u8 97, .int .u8 7, .int .u8 1] 5)) := (Below.refl _ _).alloc (Nat.le_refl _) _
  obtain ⟨w0, hw0⟩ : ∃ w0, w0 = w.alloc (.cells #[.int .u8 8, .int .u8 0, .int .u8 97, .int .u8 7, .int .u8 1] 5) := ⟨_, rfl⟩
  have hr0' : Rd w0 w0.heap.size 1 (some ⟨w.heap.size, 0, none⟩) 5 (bc [8, 0, 97, 7, 1]) := by rw [hw0]; exact hr0.more (by simp)
  rw [← hw0] at hb0 ⊢
  clear hw0 hr0
  refine (Open_calls _ [8, 0, 97, 7, 1] 5 8 w0 hr0' (by decide) (by decide) (by decide)).mono ?_
  intro e w1 h1
  rw [open_ex8] at h1
  obtain ⟨q, A1, c1, hq, rfl, hr1, hb1, i1, i2⟩ := h1
  obtain rfl := hq.out
  have hb1' := hb0.next hb1
  clear hq hr0' hb0 hb1
  go_wp2_with fail
  have hr2 := Rd.lit w1 5 (0, 0) [8, 0, 97, 7, 1]
  have hb2 : Below w1.heap.size w1 (w1.alloc (.cells #[.int .u8 8, .int .u8 0, .int .u8 97, .int .u8 7, .int .u8 1] 5)) := (Below.refl _ _).alloc (Nat.le_refl _) _
  obtain ⟨w2, hw2⟩ : ∃ w2, w2 = w1.alloc (.cells #[.int .u8 8, .int .u8 0, .int .u8 97, .int .u8 7, .int .u8 1] 5) := ⟨_, rfl⟩
  have hr2' : Rd w2 w2.heap.size 1 (some ⟨w1.heap.size, 0, none⟩) 5 (bc [8, 0, 97, 7, 1]) := by rw [hw2]; exact hr2.more (by simp)
  rw [← hw2] at hb2 ⊢
  clear hw2 hr2
  refine (Open_calls _ [8, 0, 97, 7, 1] 5 7 w2 hr2' (by decide) (by decide) (by decide)).mono ?_
  intro e w3 h3
  rw [open_ex7] at h3
  obtain ⟨rfl, hb3⟩ := h3
  have hb3' := hb2.next hb3
  clear hr2' hb2 hb3
  go_wp2_with fail
  have hr4 := Rd.lit w3 5 (8, 9) [97, 97, 97, 97, 97, 97, 97, 97]
  have hb4 : Below w3.heap.size w3 (w3.alloc (.cells #[.int .u8 97, .int .u8 97, .int .u8 97, .int .u8 97, .int .u8 97, .int .u8 97, .int .u8 97, .int .u8 97] 5 (8, 9))) := (Below.refl _ _).alloc (Nat.le_refl _) _
  obtain ⟨w4, hw4⟩ : ∃ w4, w4 = w3.alloc (.cells #[.int .u8 97, .int .u8 97, .int .u8 97, .int .u8 97, .int .u8 97, .int .u8 97, .int .u8 97, .int .u8 97] 5 (8, 9)) := ⟨_, rfl⟩
  have hr4' : Rd w4 w4.heap.size 1 (some ⟨w3.heap.size, 0, none⟩) 8 (bc [97, 97, 97, 97, 97, 97, 97, 97]) := by rw [hw4]; exact hr4.more (by simp)
  rw [← hw4] at hb4 ⊢
  clear hw4 hr4 kc
  refine (Press_calls _ [97, 97, 97, 97, 97, 97, 97, 97] 8 w4 hr4' (by decide) (by decide)).mono ?_
  rintro e w5 ⟨q5, A5, c5, hq5, rfl, hr5, hb5, i3, i4⟩
  have hq5' := hq5.out
  rw [press_ex] at hq5'
  subst hq5'
  have hb15 := (hb3'.next hb4).next hb5
  have hr15 := hr1.belowW hb15 (Nat.le_refl _)
  have hv1 : (convert 22 9 (.slice A5 5 c5)).run Try.prog w5 = .ok (.string ⟨#[8, 0, 97, 7, 1]⟩) w5 := conv8f hr5
  have hv2 : (convert 22 9 (.slice A1 8 c1)).run Try.prog w5 = .ok (.string ⟨#[97, 97, 97, 97, 97, 97, 97, 97]⟩) w5 := conv8f hr15
  clear hq5
  go_wp2_with fail
  go_ret
  exact ⟨rfl, hb1'.next hb15⟩
end Go.Proofs.Ytjikoeokmdnciaa
