/- The document's examples, which stand at the head of each statement of layer 'code'. Conditions: none. -/
import Derived.Test.YtibcehdehhffjaaCode6
namespace Go.Proofs.Ytibcehdehhffjaa
open Go.RowKit Go.Dol

theorem num_300 : num (clampN 300) = [172, 2] := by
  have : clampN 300 = 300 := by decide
  rw [this, num_ge (by omega), num_lt (by omega)]
  rfl
theorem num_m1 : num (zig (clampI (-1))) = [1] := by
  have : zig (clampI (-1)) = 1 := by decide
  rw [this, num_lt (by omega)]
  rfl
theorem text_ab : text [97, 98] = [2, 97, 98] := by
  unfold text
  rw [num_lt (by decide)]
  rfl
theorem take_80 : takeNum [128, 0] = none := by decide

/-- bytes to a string, as a fact for the walk. -/
theorem conv8f {w : World} {B : Nat} {A : Option Addr} {n c : Nat} {l : List UInt8} (hr : Rd w B 1 A n (bc l)) : (convert 22 9 (.slice A n c)).run Try.prog w = .ok (.string ⟨l.toArray⟩) w :=
  run_conv_bs w _ _ _ Try.underlying22 Try.underlying5 Try.underlying9 B A n c l hr

set_option maxRecDepth 100000 in
set_option maxHeartbeats 400000 in
theorem awake_calls (w : World) : Calls Try.prog 10 #[] w fun e w' => e = .returned (.bool true) ∧ Below w.heap.size w w' := by
  go_enter Try.func10, Try.ntmps10
  go_wp2_with fail
  obtain ⟨w0, hw0⟩ : ∃ w0, w0 = w.alloc (.cells #[.int .u8 128, .int .u8 0] 5) := ⟨_, rfl⟩
  have hb0 : Below w.heap.size w w0 := by rw [hw0]; exact (Below.refl _ _).alloc (Nat.le_refl _) _
  have hr0 : Rd w0 w0.heap.size 1 (some ⟨w.heap.size, 0, none⟩) 2 (bc [128, 0]) := by
    refine ⟨rfl, fun _ => ⟨w.heap.size, 0, rfl, by rw [hw0]; simp, fun j u hu => ?_⟩⟩
    have hj : j < 2 := by have := (List.getElem?_eq_some_iff.1 hu).1; simpa [bc] using this
    have : j = 0 ∨ j = 1 := by omega
    rw [hw0]
    rcases this with rfl | rfl
    · have : u = .int .u8 128 := by simpa [bc] using hu.symm
      subst this
      simp
    · have : u = .int .u8 0 := by simpa [bc] using hu.symm
      subst this
      simp
  rw [← hw0]
  clear hw0
  refine (TakeNum_calls (some ⟨w.heap.size, 0, none⟩) [128, 0] 2 w0 hr0 (by decide) (by decide)).mono ?_
  intro e w1 h1
  rw [take_80] at h1
  obtain ⟨rfl, hb1⟩ := h1
  go_wp2_with fail
  refine (PutNum_calls none [] 0 _ w1 Rd.nil (by decide)).mono ?_
  rintro e w2 ⟨l1, A1, c1, e1, rfl, h1, hb2, h2, h3⟩
  have e1' : l1 = [172, 2] := by rw [e1.out, num_300]; rfl
  subst e1'
  clear e1
  have hv1 : (convert 22 9 (.slice A1 2 c1)).run Try.prog w2 = .ok (.string ⟨#[172, 2]⟩) w2 := conv8f (Rd.of_own h1)
  go_wp2_with fail
  refine (PutInt_calls none [] 0 _ w2 Rd.nil (by decide)).mono ?_
  rintro e w3 ⟨l2, A2, c2, e2, rfl, g1, hb3, g2, g3⟩
  have e2' : l2 = [1] := by rw [e2.out, num_m1]; rfl
  subst e2'
  clear e2
  have hv2 : (convert 22 9 (.slice A2 1 c2)).run Try.prog w3 = .ok (.string ⟨#[1]⟩) w3 := conv8f (Rd.of_own g1)
  go_wp2_with fail
  refine (PutText_calls none [] 0 ⟨#[97, 98]⟩ w3 Rd.nil (by decide)).mono ?_
  rintro e w4 ⟨l3, A3, c3, e3, rfl, k1, hb4, k2, k3⟩
  have e3' : l3 = [2, 97, 98] := by rw [e3.out]; exact text_ab
  subst e3'
  clear e3
  have hv3 : (convert 22 9 (.slice A3 3 c3)).run Try.prog w4 = .ok (.string ⟨#[2, 97, 98]⟩) w4 := conv8f (Rd.of_own k1)
  go_wp2_with fail
  go_ret
  have s0 := hb0.size
  have s1 := hb1.size
  have s2 := hb2.size
  have s3 := hb3.size
  exact ⟨rfl, (((hb0.trans (hb1.mono s0)).trans (hb2.mono (by omega))).trans (hb3.mono (by omega))).trans (hb4.mono (by omega))⟩
end Go.Proofs.Ytibcehdehhffjaa
