/- The document's example, which stands at the head of each statement of layer 'delta'. Conditions: none. -/
import Derived.Test.YtpkfkippbanagaaDelta14
import Derived.Lib.SmallJoins
import Derived.Lib.SlBytesConst
namespace Go.Proofs.Ytpkfkippbanagaa
open Go.RowKit Go.Dol
set_option linter.unusedVariables false

theorem enc_ex : encL [97, 98, 99, 100, 101, 102] [97, 98, 88, 101, 102] = [6, 5, 3, 0, 0, 88, 3, 4] := by
  have n6 : num 6 = [6] := by rw [num_lt (by decide)]; rfl
  have n5 : num 5 = [5] := by rw [num_lt (by decide)]; rfl
  have n4 : num 4 = [4] := by rw [num_lt (by decide)]; rfl
  have n3 : num 3 = [3] := by rw [num_lt (by decide)]; rfl
  have n0 : num 0 = [0] := by rw [num_lt (by decide)]; rfl
  have h1 : (2 : Nat) = begins [97, 98, 99, 100, 101, 102] [97, 98, 88, 101, 102] := by decide +kernel
  have h2 : (2 : Nat) = ends (([97, 98, 99, 100, 101, 102] : List UInt8).drop 2) (([97, 98, 88, 101, 102] : List UInt8).drop 2) := by decide +kernel
  rw [enc_parts _ _ h1 h2, midG_short 1 _ _ (by decide) (by decide)]
  simp [copyOf, runB, n6, n5, n4, n3, n0]
theorem app_ex : applyL [97, 98, 99, 100, 101, 102] [6, 5, 3, 0, 0, 88, 3, 4] 5 = some [97, 98, 88, 101, 102] := by decide +kernel
theorem app_ex2 : applyL [97, 98, 99, 100, 101, 103, 63] [6, 5, 3, 0, 0, 88, 3, 4] 5 = none := by decide +kernel
theorem _root_.Go.Dol.Rd.lit (w : World) (T : TypeId) (fr : Nat × Nat) (l : List UInt8) : Rd (w.alloc (.cells (bc l).toArray T fr)) (w.heap.size + 1) 1 (some ⟨w.heap.size, 0, none⟩) l.length (bc l) := by
  refine ⟨by simp [bc], fun _ => ⟨w.heap.size, 0, rfl, by omega, fun j u hu => ?_⟩⟩
  have := World.cell?_alloc_mark w (bc l).toArray T fr j
  rw [Nat.zero_add, this]
  simpa using hu

set_option maxRecDepth 100000 in
set_option maxHeartbeats 800000 in
theorem awake_calls (w : World) : Calls Try.prog 26 #[] w fun e w' => e = .returned (.bool true) ∧ Below w.heap.size w w' := by
  have kc := fun (w : World) (C : Array Value) (n c : Nat) => Lib.run_convert_bytes_const (P := Try.prog) w 22 5 C n c Try.underlying22 Try.underlying5
  have kc2 : ∀ (w : World) (X : Obj) (C : Array Value) (n c : Nat), (convert 22 22 (.slice (some ⟨w.heap.size + 1, 0, none⟩) n c)).run Try.prog ((w.alloc X).alloc (.cells C 5)) = .ok (.slice (some ⟨w.heap.size + 1, 0, none⟩) n c) ((w.alloc X).alloc (.cells C 5 (C.size, C.size + 1))) := fun w X C n c => by
    have := kc (w.alloc X) C n c
    simpa using this
  go_enter Try.func26, Try.ntmps26
  go_wp2_with fail
  have hr0 := (Rd.lit w 5 (6, 7) [97, 98, 99, 100, 101, 102])
  have hb0 : Below w.heap.size w (w.alloc (.cells #[.int .u8 97, .int .u8 98, .int .u8 99, .int .u8 100, .int .u8 101, .int .u8 102] 5 (6, 7))) := (Below.refl _ _).alloc (Nat.le_refl _) _
  have hs0 : (w.alloc (.cells #[.int .u8 97, .int .u8 98, .int .u8 99, .int .u8 100, .int .u8 101, .int .u8 102] 5 (6, 7))).heap.size = w.heap.size + 1 := by simp
  obtain ⟨w0, hw0⟩ : ∃ w0, w0 = w.alloc (.cells #[.int .u8 97, .int .u8 98, .int .u8 99, .int .u8 100, .int .u8 101, .int .u8 102] 5 (6, 7)) := ⟨_, rfl⟩
  have hr0' : Rd w0 w0.heap.size 1 (some ⟨w.heap.size, 0, none⟩) 6 (bc [97, 98, 99, 100, 101, 102]) := by rw [hw0]; exact hr0.more (by simp)
  rw [← hw0] at hb0 hs0 ⊢
  clear hw0 hr0
  have hr1 := (Rd.lit w0 5 (5, 6) [97, 98, 88, 101, 102])
  have hb1 : Below w0.heap.size w0 (w0.alloc (.cells #[.int .u8 97, .int .u8 98, .int .u8 88, .int .u8 101, .int .u8 102] 5 (5, 6))) := (Below.refl _ _).alloc (Nat.le_refl _) _
  obtain ⟨w1, hw1⟩ : ∃ w1, w1 = w0.alloc (.cells #[.int .u8 97, .int .u8 98, .int .u8 88, .int .u8 101, .int .u8 102] 5 (5, 6)) := ⟨_, rfl⟩
  have hr1' : Rd w1 w1.heap.size 1 (some ⟨w0.heap.size, 0, none⟩) 5 (bc [97, 98, 88, 101, 102]) := by rw [hw1]; exact hr1.more (by simp)
  rw [← hw1] at hb1 ⊢
  rw [hs0] at hr1'
  have hr0w := hr0'.alive hb1
  have hbw1 := hb0.next hb1
  clear hw1 hr1 hs0 kc2 hb0 hb1 hr0'
  refine (Encode_calls _ [97, 98, 99, 100, 101, 102] 6 _ [97, 98, 88, 101, 102] 5 w1 hr0w hr1' (by decide) (by decide) (by decide) (by decide) (by decide) (by decide)).mono ?_
  rintro e w2 ⟨l2, A2, c2, e2, rfl, hr2, hb2, i1, i2⟩
  have hb12 := hbw1.next hb2
  have e2' := e2.out
  rw [enc_ex] at e2'
  subst e2'
  clear e2 hr0w hr1' hb2 hbw1
  go_wp2_with fail
  have hr3 := (Rd.lit w2 5 (6, 7) [97, 98, 99, 100, 101, 102])
  have hb3 : Below w2.heap.size w2 (w2.alloc (.cells #[.int .u8 97, .int .u8 98, .int .u8 99, .int .u8 100, .int .u8 101, .int .u8 102] 5 (6, 7))) := (Below.refl _ _).alloc (Nat.le_refl _) _
  obtain ⟨w3, hw3⟩ : ∃ w3, w3 = w2.alloc (.cells #[.int .u8 97, .int .u8 98, .int .u8 99, .int .u8 100, .int .u8 101, .int .u8 102] 5 (6, 7)) := ⟨_, rfl⟩
  have hr3' : Rd w3 w3.heap.size 1 (some ⟨w2.heap.size, 0, none⟩) 6 (bc [97, 98, 99, 100, 101, 102]) := by rw [hw3]; exact hr3.more (by simp)
  rw [← hw3] at hb3 ⊢
  have hr23 := hr2.alive hb3
  clear hw3 hr3
  refine (Apply_calls _ [97, 98, 99, 100, 101, 102] 6 A2 [6, 5, 3, 0, 0, 88, 3, 4] c2 5 w3 hr3' (by decide) (by decide) (by decide) hr23 (by decide) i1 (by decide)).mono ?_
  intro e w4 h4
  rw [app_ex] at h4
  obtain ⟨q4, A4, c4, hq4, rfl, hr4, hb4, i3, i4⟩ := h4
  obtain rfl := hq4.out
  have hb24 := hb3.next hb4
  have hr24 := hr23.alive hb4
  clear hq4 hr3' hr23 hb3 hb4
  go_wp2_with fail
  have hr5 := (Rd.lit w4 5 (7, 8) [97, 98, 99, 100, 101, 103, 63])
  have hb5 : Below w4.heap.size w4 (w4.alloc (.cells #[.int .u8 97, .int .u8 98, .int .u8 99, .int .u8 100, .int .u8 101, .int .u8 103, .int .u8 63] 5 (7, 8))) := (Below.refl _ _).alloc (Nat.le_refl _) _
  obtain ⟨w5, hw5⟩ : ∃ w5, w5 = w4.alloc (.cells #[.int .u8 97, .int .u8 98, .int .u8 99, .int .u8 100, .int .u8 101, .int .u8 103, .int .u8 63] 5 (7, 8)) := ⟨_, rfl⟩
  have hr5' : Rd w5 w5.heap.size 1 (some ⟨w4.heap.size, 0, none⟩) 7 (bc [97, 98, 99, 100, 101, 103, 63]) := by rw [hw5]; exact hr5.more (by simp)
  rw [← hw5] at hb5 ⊢
  have hr25 := hr24.alive hb5
  have hr45 := hr4.alive hb5
  clear hw5 hr5 kc
  refine (Apply_calls _ [97, 98, 99, 100, 101, 103, 63] 7 A2 [6, 5, 3, 0, 0, 88, 3, 4] c2 5 w5 hr5' (by decide) (by decide) (by decide) hr25 (by decide) i1 (by decide)).mono ?_
  intro e w6 h6
  rw [app_ex2] at h6
  obtain ⟨rfl, hb6⟩ := h6
  have hv1 : (convert 22 9 (.slice A2 8 c2)).run Try.prog w6 = .ok (.string ⟨#[6, 5, 3, 0, 0, 88, 3, 4]⟩) w6 := conv8f (hr25.alive hb6)
  have hv2 : (convert 22 9 (.slice A4 5 c4)).run Try.prog w6 = .ok (.string ⟨#[97, 98, 88, 101, 102]⟩) w6 := conv8f (hr45.alive hb6)
  clear hr5' hr25 hr45
  go_wp2_with fail
  go_ret
  exact ⟨rfl, (hb12.next hb24).next (hb5.next hb6)⟩
end Go.Proofs.Ytpkfkippbanagaa
