/- The walks of the layer 'disk', its fifth part: a file is synced, or taken away. Conditions: the disk is in good order; names below 2^63. -/
import Derived.Test.YtogjlfpoedeooaaDisk6
import Derived.Test.YtogjlfpoedeooaaDiskLaw
namespace Go.Dol
open Go.RowKit
theorem th_touch (D : Dk) (n : ByteArray) : thD D [] n = touchD D n := by
  unfold thD touchD rdD
  cases hB : nameB n <;> cases hd : D.dark <;> simp [hB]
end Go.Dol
namespace Go.Proofs.Ytogjlfpoedeooaa
open Go.RowKit Go.Dol
set_option linter.unusedVariables false
section
variable {w w' : World} {g m : Nat} {D : Dk}
theorem Tw.toOp {w0 w1 : World} (h0 : Below w0.heap.size w0 w1) {r : Int × Dk} {e : Ending} (h : RetOp w1 g m r e w') : RetOp w0 g m r e w' := ⟨h.1, h.2.1, (Tw.below h0).step h.2.2⟩

set_option maxRecDepth 100000 in
set_option maxHeartbeats 800000 in
theorem syncF_calls (w : World) : Calls Try.prog 61 #[] w fun e w' => e = .returned (.tuple #[]) ∧ w' = w := by
  go_enter Try.func61, Try.ntmps61
  go_wp2_with fail
  go_end0
  exact ⟨rfl, rfl⟩

/-- A raw write that costs nothing and turns no file. -/
theorem syncSpend_calls (h : Dsk w g m D) (hK : OkD D) : Calls Try.prog 44 #[.pointer (some ⟨g, 0, none⟩), .int .i64 0, .func (.func 61) #[] #[]] w (RetOp w g m (spendD D D.l)) := by
  by_cases hl : D.left = 0
  · have HF : spendD D D.l = (5, { D with dark := true, left := -1 }) := if_pos hl
    rw [HF]
    exact spend_cut h 0 _ (by omega) hl
  · have HF : spendD D D.l = (0, { D with left := lessD D.left, done := D.done + 1, l := D.l }) := if_neg hl
    rw [HF]
    refine (spend_done h 0 _ #[] (enters_of Try.func61 (by kernel_rfl) rfl _) (by omega) hl hK.left0 hK.left1 (fun w1 => Dsk w1 g m { D with left := lessD D.left, done := D.done + 1, l := D.l } ∧ Tw w w1 g m) (fun w1 hB hg => ?_)).mono ?_
    · refine (syncF_calls w1).mono ?_
      rintro e w2 ⟨rfl, rfl⟩
      refine ⟨rfl, h.turn (D' := { D with left := lessD D.left, done := D.done + 1, l := D.l }) rfl ?_ hg, Tw.grown hg⟩
      have e1 : frD { D with left := lessD D.left, done := D.done + 1, l := D.l } = IntKind.i64.wrap (frD D - 0) := free_turn rfl (by simp)
      rw [e1]
      exact hB
    · rintro e w1 ⟨rfl, h1, h2⟩
      exact ⟨rfl, h1, h2⟩

set_option maxRecDepth 100000 in
set_option maxHeartbeats 800000 in
theorem Sync_calls (h : Dsk w g m D) (hK : OkD D) (n : ByteArray) (hn : n.size ≤ maxLen) : Calls Try.prog 34 #[.pointer (some ⟨g, 0, none⟩), .string n] w (RetOp w g m (syncD D n)) := by
  obtain ⟨t, ht⟩ : ∃ t, t = touchD D n := ⟨_, rfl⟩
  have hT := there_calls h hK.ord w.heap.size none [] 0 0 rfl (by simp) n (World.ownsRow_nil _ _ _ _) (Nat.le_refl _) hn
  rw [th_touch, ← ht] at hT
  by_cases h0 : t = 0
  · have HF : Hid (syncD D n = spendD D D.l) := by unfold Hid syncD; rw [if_neg (by rw [← ht, h0]; simp)]
    rw [h0] at hT
    clear ht h0
    have HT := Lib.hid hT
    clear hT
    go_enter Try.func34, Try.ntmps34
    go_wp2_with ((go_at_call 43; refine HT.out.mono ?_; rintro e w1 ⟨rfl, hb1, hD1⟩))
    refine (syncSpend_calls hD1 hK).mono ?_
    intro e w2 h2
    have h3 := Tw.toOp hb1 h2
    obtain ⟨rfl, _, _⟩ := id h2
    go_wp2_with fail
    go_ret
    rw [HF.out]
    exact h3
  · have HF : Hid (syncD D n = (t, D)) := by unfold Hid syncD; rw [if_pos (by rw [← ht]; exact h0), ← ht]
    have hq : (t == 0) = false := beq_eq_false_iff_ne.2 h0
    clear ht h0
    go_enter Try.func34, Try.ntmps34
    go_wp2_with ((go_at_call 43; refine hT.mono ?_; rintro e w1 ⟨rfl, hb1, hD1⟩))
    go_ret
    rw [HF.out]
    exact ⟨rfl, hD1, Tw.below hb1⟩
end
end Go.Proofs.Ytogjlfpoedeooaa
