/- The walks of the layer 'disk', its fourth part: a raw write is done, or there is no room, or the power goes. Conditions: none beyond what each lemma names. -/
import Derived.Test.YtogjlfpoedeooaaDisk5
import Derived.Shelf.Abstract
namespace Go.Dol
open Go.RowKit
theorem ops_succ (n : Nat) : IntKind.i64.wrap (IntKind.i64.wrap (n : Int) + 1) = IntKind.i64.wrap ((n + 1 : Nat) : Int) := by
  simp only [IntKind.wrap, IntKind.bits, IntKind.signed]
  simp
  split <;> split <;> split <;> omega
end Go.Dol
namespace Go.Proofs.Ytogjlfpoedeooaa
open Go.RowKit Go.Dol
set_option linter.unusedVariables false
section
variable {w w' : World} {g m : Nat} {D : Dk}
set_option maxRecDepth 100000 in
set_option maxHeartbeats 800000 in
theorem Add_calls (g i n : Nat) (w : World) (hc : w.cell? ⟨g, i, none⟩ = some (.int .i64 (opsD n))) (hz : w.frozen? ⟨g, i, none⟩ = false) :
    Calls Try.prog 71 #[.pointer (some ⟨g, i, none⟩), .int .i64 1] w fun e w' => e = .returned (.int .i64 (opsD (n + 1))) ∧ w' = w.setCell ⟨g, i, none⟩ (.int .i64 (opsD (n + 1))) := by
  have hl := run_call_add (P := Try.prog) Try.func86 (by kernel_rfl) (by kernel_rfl) (by kernel_rfl) .i64 (by kernel_rfl) (y := 1) (s := opsD (n + 1)) hc hz (by
    have := ops_succ n
    unfold opsD
    simp only [go_sem]
    rw [← this]
    simp [IntKind.wrap_i64])
  go_enter Try.func71, Try.ntmps71
  go_wp2_with fail
  go_ret
  exact ⟨rfl, rfl⟩

set_option maxRecDepth 100000 in
set_option maxHeartbeats 800000 in
theorem spend_room (h : Dsk w g m D) (more : Int) (fv : Value) (h1 : 0 < more) (h2 : frD D < more) :
    Calls Try.prog 44 #[.pointer (some ⟨g, 0, none⟩), .int .i64 more, fv] w fun e w' => e = .returned (.int .i64 4) ∧ w' = w := by
  obtain ⟨k0, k1, k2, k3, k4, k5⟩ := h.cells
  have d1 : decide (more > 0) = true := decide_eq_true h1
  have d1' : decide (0 < more) = true := decide_eq_true h1
  have d2 : decide (more > frD D) = true := decide_eq_true h2
  have d2' : decide (frD D < more) = true := decide_eq_true h2
  clear h1 h2
  go_enter Try.func44, Try.ntmps44
  go_wp2_with fail
  go_ret
  exact ⟨rfl, rfl⟩

set_option maxRecDepth 100000 in
set_option maxHeartbeats 800000 in
theorem spend_cut (h : Dsk w g m D) (more : Int) (fv : Value) (h1 : ¬ (0 < more ∧ frD D < more)) (h2 : D.left = 0) :
    Calls Try.prog 44 #[.pointer (some ⟨g, 0, none⟩), .int .i64 more, fv] w (RetOp w g m (5, { D with dark := true, left := -1 })) := by
  obtain ⟨k0, k1, k2, k3, k4, k5⟩ := h.cells
  have z4 := h.free 4
  have z5 := h.free 5
  rw [h2] at k4
  have hg : w.grownBy ((w.setCell ⟨g, 5, none⟩ (.bool true)).setCell ⟨g, 4, none⟩ (.int .i64 (-1))) (some g) := grown_setCell (grown_setCell (World.grownBy.refl w _) 5 _) 4 _
  have hE : Dsk ((w.setCell ⟨g, 5, none⟩ (.bool true)).setCell ⟨g, 4, none⟩ (.int .i64 (-1))) g m { D with dark := true, left := -1 } := by
    obtain ⟨al, hB, _⟩ := id h
    rw [h2] at hB
    exact h.turn (D' := { D with dark := true, left := -1 }) rfl ((hB.set 5 _).set 4 _) hg
  clear h2
  by_cases hm : 0 < more
  · have d1 : decide (more > 0) = true := decide_eq_true hm
    have d1' : decide (0 < more) = true := decide_eq_true hm
    have d2 : decide (more > frD D) = false := decide_eq_false (by omega)
    have d2' : decide (frD D < more) = false := decide_eq_false (by omega)
    clear h1 hm
    go_enter Try.func44, Try.ntmps44
    go_wp2_with fail
    go_ret
    exact ⟨rfl, hE, Tw.grown hg⟩
  · have d1 : decide (more > 0) = false := decide_eq_false (by omega)
    have d1' : decide (0 < more) = false := decide_eq_false (by omega)
    clear h1 hm
    go_enter Try.func44, Try.ntmps44
    go_wp2_with fail
    go_ret
    exact ⟨rfl, hE, Tw.grown hg⟩

/-- What is left ahead of a cut, a raw write later. -/
def lessD (k : Int) : Int := if 0 < k then k - 1 else k

set_option maxRecDepth 100000 in
set_option maxHeartbeats 1600000 in
theorem spend_done (h : Dsk w g m D) (more : Int) (k : Nat) (caps : Array Value) (hent : ∀ W, (callFunc k caps).run Try.prog W = .ok (.enter k caps) W) (h1 : ¬ (0 < more ∧ frD D < more)) (h2 : D.left ≠ 0) (h3 : -1 ≤ D.left) (h4 : D.left ≤ 9223372036854775807) (R : World → Prop)
    (hdo : ∀ w1, Blk w1 g 72 (dcells D.cap m (IntKind.i64.wrap (frD D - more)) (D.done + 1) (lessD D.left) D.dark) → w.grownBy w1 (some g) → Calls Try.prog k caps w1 (fun e w' => e = .returned (.tuple #[]) ∧ R w')) :
    Calls Try.prog 44 #[.pointer (some ⟨g, 0, none⟩), .int .i64 more, .func (.func k) #[] caps] w fun e w' => e = .returned (.int .i64 0) ∧ R w' := by
  obtain ⟨k0, k1, k2, k3, k4, k5⟩ := h.cells
  obtain ⟨al, hB, _⟩ := id h
  have z2 := h.free 2
  have z3 := h.free 3
  have z4 := h.free 4
  have e4 : (D.left == 0) = false := beq_eq_false_iff_ne.2 h2
  obtain ⟨fr, hfr⟩ : ∃ fr, IntKind.i64.wrap (frD D - more) = fr := ⟨_, rfl⟩
  rw [hfr] at hdo
  have hC : ∀ W : World, W.cell? ⟨g, 3, none⟩ = some (.int .i64 (opsD D.done)) → W.frozen? ⟨g, 3, none⟩ = false → Calls Try.prog 71 #[.pointer (some ⟨g, 3, none⟩), .int .i64 1] W fun e w' => e = .returned (.int .i64 (opsD (D.done + 1))) ∧ w' = W.setCell ⟨g, 3, none⟩ (.int .i64 (opsD (D.done + 1))) := fun W => Add_calls g 3 D.done W
  have HD := Lib.hid hdo
  clear hdo
  by_cases hm : 0 < more
  · have d1 : decide (more > 0) = true := decide_eq_true hm
    have d1' : decide (0 < more) = true := decide_eq_true hm
    have d2 : decide (more > frD D) = false := decide_eq_false (by omega)
    have d2' : decide (frD D < more) = false := decide_eq_false (by omega)
    clear h1 hm
    by_cases hl : 0 < D.left
    · have d3 : decide (D.left > 0) = true := decide_eq_true hl
      have d3' : decide (0 < D.left) = true := decide_eq_true hl
      have f1 : IntKind.i64.wrap (D.left - 1) = D.left - 1 := IntWalk.i64_in _ (by omega)
      have hL : Hid (lessD D.left = D.left - 1) := if_pos hl
      clear hl h2 h3 h4
      go_enter Try.func44, Try.ntmps44
      go_wp2_with fail
      have hB1 : Blk ((w.setCell ⟨g, 4, none⟩ (.int .i64 (D.left - 1))).setCell ⟨g, 2, none⟩ (.int .i64 fr)) g 72 [.int .i64 D.cap, .map (some m), .int .i64 fr, .int .i64 (opsD D.done), .int .i64 (D.left - 1), .bool D.dark] := (hB.set 4 _).set 2 _
      have hg1 : w.grownBy ((w.setCell ⟨g, 4, none⟩ (.int .i64 (D.left - 1))).setCell ⟨g, 2, none⟩ (.int .i64 fr)) (some g) := grown_setCell (grown_setCell (World.grownBy.refl w _) 4 _) 2 _
      refine (hC _ (by rw [hB1.cell]; rfl) (hB1.free 3)).mono ?_
      rintro e w2 ⟨rfl, rfl⟩
      have hB2 := hB1.set 3 (.int .i64 (opsD (D.done + 1)))
      have hg2 := grown_setCell hg1 3 (.int .i64 (opsD (D.done + 1)))
      go_wp2_with fail
      refine (HD.out _ (by rw [hL.out]; exact hB2) hg2).mono ?_
      rintro e w3 ⟨rfl, hR⟩
      go_wp2_with fail
      go_ret
      exact ⟨rfl, hR⟩
    · have d3 : decide (D.left > 0) = false := decide_eq_false hl
      have d3' : decide (0 < D.left) = false := decide_eq_false hl
      have hL : Hid (lessD D.left = D.left) := if_neg hl
      clear hl h2 h3 h4
      go_enter Try.func44, Try.ntmps44
      go_wp2_with fail
      have hB1 : Blk (w.setCell ⟨g, 2, none⟩ (.int .i64 fr)) g 72 [.int .i64 D.cap, .map (some m), .int .i64 fr, .int .i64 (opsD D.done), .int .i64 D.left, .bool D.dark] := hB.set 2 _
      have hg1 : w.grownBy (w.setCell ⟨g, 2, none⟩ (.int .i64 fr)) (some g) := grown_setCell (World.grownBy.refl w _) 2 _
      refine (hC _ (by rw [hB1.cell]; rfl) (hB1.free 3)).mono ?_
      rintro e w2 ⟨rfl, rfl⟩
      have hB2 := hB1.set 3 (.int .i64 (opsD (D.done + 1)))
      have hg2 := grown_setCell hg1 3 (.int .i64 (opsD (D.done + 1)))
      go_wp2_with fail
      refine (HD.out _ (by rw [hL.out]; exact hB2) hg2).mono ?_
      rintro e w3 ⟨rfl, hR⟩
      go_wp2_with fail
      go_ret
      exact ⟨rfl, hR⟩
  · have d1 : decide (more > 0) = false := decide_eq_false hm
    have d1' : decide (0 < more) = false := decide_eq_false hm
    clear h1 hm
    by_cases hl : 0 < D.left
    · have d3 : decide (D.left > 0) = true := decide_eq_true hl
      have d3' : decide (0 < D.left) = true := decide_eq_true hl
      have f1 : IntKind.i64.wrap (D.left - 1) = D.left - 1 := IntWalk.i64_in _ (by omega)
      have hL : Hid (lessD D.left = D.left - 1) := if_pos hl
      clear hl h2 h3 h4
      go_enter Try.func44, Try.ntmps44
      go_wp2_with fail
      have hB1 : Blk ((w.setCell ⟨g, 4, none⟩ (.int .i64 (D.left - 1))).setCell ⟨g, 2, none⟩ (.int .i64 fr)) g 72 [.int .i64 D.cap, .map (some m), .int .i64 fr, .int .i64 (opsD D.done), .int .i64 (D.left - 1), .bool D.dark] := (hB.set 4 _).set 2 _
      have hg1 : w.grownBy ((w.setCell ⟨g, 4, none⟩ (.int .i64 (D.left - 1))).setCell ⟨g, 2, none⟩ (.int .i64 fr)) (some g) := grown_setCell (grown_setCell (World.grownBy.refl w _) 4 _) 2 _
      refine (hC _ (by rw [hB1.cell]; rfl) (hB1.free 3)).mono ?_
      rintro e w2 ⟨rfl, rfl⟩
      have hB2 := hB1.set 3 (.int .i64 (opsD (D.done + 1)))
      have hg2 := grown_setCell hg1 3 (.int .i64 (opsD (D.done + 1)))
      go_wp2_with fail
      refine (HD.out _ (by rw [hL.out]; exact hB2) hg2).mono ?_
      rintro e w3 ⟨rfl, hR⟩
      go_wp2_with fail
      go_ret
      exact ⟨rfl, hR⟩
    · have d3 : decide (D.left > 0) = false := decide_eq_false hl
      have d3' : decide (0 < D.left) = false := decide_eq_false hl
      have hL : Hid (lessD D.left = D.left) := if_neg hl
      clear hl h2 h3 h4
      go_enter Try.func44, Try.ntmps44
      go_wp2_with fail
      have hB1 : Blk (w.setCell ⟨g, 2, none⟩ (.int .i64 fr)) g 72 [.int .i64 D.cap, .map (some m), .int .i64 fr, .int .i64 (opsD D.done), .int .i64 D.left, .bool D.dark] := hB.set 2 _
      have hg1 : w.grownBy (w.setCell ⟨g, 2, none⟩ (.int .i64 fr)) (some g) := grown_setCell (World.grownBy.refl w _) 2 _
      refine (hC _ (by rw [hB1.cell]; rfl) (hB1.free 3)).mono ?_
      rintro e w2 ⟨rfl, rfl⟩
      have hB2 := hB1.set 3 (.int .i64 (opsD (D.done + 1)))
      have hg2 := grown_setCell hg1 3 (.int .i64 (opsD (D.done + 1)))
      go_wp2_with fail
      refine (HD.out _ (by rw [hL.out]; exact hB2) hg2).mono ?_
      rintro e w3 ⟨rfl, hR⟩
      go_wp2_with fail
      go_ret
      exact ⟨rfl, hR⟩
end
end Go.Proofs.Ytogjlfpoedeooaa
