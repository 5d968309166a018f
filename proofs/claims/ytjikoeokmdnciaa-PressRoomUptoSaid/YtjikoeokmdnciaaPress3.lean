/- The walks of the layer 'press', its third part: the opener, a number at a time. Conditions: lengths below 2^47. -/
import Derived.Test.YtjikoeokmdnciaaPress2
import Derived.StillTailTactics
import Derived.Deep.RegionHeld3
import Derived.Deep.RegionLaw
namespace Go.Proofs.Ytjikoeokmdnciaa
open Go.RowKit Go.Dol
set_option linter.unusedVariables false

/-- What 'next' hands back. -/
def RetNext (w : World) (g : Nat) (vo vs ve : Value) (r : Option (Nat × List UInt8)) (e : Ending) (w' : World) : Prop :=
  match r with
  | none => e = .returned (.int .i64 0) ∧ Blk w' g 53 [.slice none 0 0, vo, vs, .int .i64 2] ∧ w.grownBy w' (some g)
  | some (n, q) => ∃ (q' : List UInt8) (A : Option Addr) (c : Nat), Hid (q' = q) ∧ e = .returned (.int .i64 (n : Nat)) ∧ Blk w' g 53 [.slice A q'.length c, vo, vs, ve] ∧ w'.ownsRow w.heap.size 5 1 (.slice A q'.length c) q'.length (bc q') ∧ w.grownBy w' (some g) ∧ q'.length ≤ c

set_option maxRecDepth 100000 in
set_option maxHeartbeats 800000 in
theorem next_calls (g : Nat) (A : Option Addr) (p : List UInt8) (c : Nat) (vo vs ve : Value) (w : World) (hb : Blk w g 53 [.slice A p.length c, vo, vs, ve]) (hr : Rd w w.heap.size 1 A p.length (bc p)) (hl : p.length ≤ 140737488355328) (hc : p.length ≤ c) :
    Calls Try.prog 38 #[.pointer (some ⟨g, 0, none⟩)] w (RetNext w g vo vs ve (takeNum p)) := by
  have hg := hb.lt
  have k0 : w.cell? ⟨g, 0, none⟩ = some (.slice A p.length c) := by rw [hb.cell]; rfl
  go_enter Try.func38, Try.ntmps38
  go_wp2_with fail
  refine (TakeNum_calls A p c w hr hl hc).mono ?_
  intro e w1 h1
  rcases ht : takeNum p with _ | ⟨m, q⟩
  · rw [ht] at h1
    obtain ⟨rfl, hb1⟩ := h1
    have hblk := hb.below hb1 hg
    have f0 := hblk.free 0
    have f3 := hblk.free 3
    have q0 : w1.cell? ⟨g, 0, none⟩ = some (.slice A p.length c) := by rw [hblk.cell]; rfl
    have q3 : w1.cell? ⟨g, 3, none⟩ = some ve := by rw [hblk.cell]; rfl
    have HT := Lib.hid ht
    clear ht k0
    go_wp2_with fail
    go_ret
    rw [HT.out]
    exact ⟨rfl, (hblk.set 3 (.int .i64 2)).set 0 (.slice none 0 0), grown_setCell (grown_setCell (grown_of_below hb1 _) _ _) _ _⟩
  · rw [ht] at h1
    obtain ⟨q', A', c', e', rfl, ho1, hb1, i1, i2⟩ := h1
    have hblk := hb.below hb1 hg
    have f0 := hblk.free 0
    have q0 : w1.cell? ⟨g, 0, none⟩ = some (.slice A p.length c) := by rw [hblk.cell]; rfl
    have HT := Lib.hid ht
    clear ht k0
    go_wp2_with fail
    go_ret
    rw [HT.out]
    exact ⟨q', A', c', e', rfl, hblk.set 0 (.slice A' q'.length c'), own_grown ho1 (grown_setCell (World.grownBy.refl _ _) _ _) hg, grown_setCell (grown_of_below hb1 _) _ _, i1⟩

/-- 'want' of what is so, and of what is not. -/
theorem want_yes (g : Nat) (x : Nat) (vp vo vs : Value) (w : World) (hb : Blk w g 53 [vp, vo, vs, .int .i64 x]) :
    Calls Try.prog 39 #[.pointer (some ⟨g, 0, none⟩), .bool true] w fun e w' => e = .returned (.bool ((x : Int) == 0)) ∧ w = w' := by
  have k3 : w.cell? ⟨g, 3, none⟩ = some (.int .i64 x) := by rw [hb.cell]; rfl
  go_enter Try.func39, Try.ntmps39
  go_wp2_with fail
  go_ret
  exact ⟨rfl, rfl⟩
theorem want_no (g : Nat) (ve : Value) (vp vo vs : Value) (w : World) (hb : Blk w g 53 [vp, vo, vs, ve]) :
    Calls Try.prog 39 #[.pointer (some ⟨g, 0, none⟩), .bool false] w fun e w' => e = .returned (.bool false) ∧ Blk w' g 53 [vp, vo, vs, .int .i64 2] ∧ w.grownBy w' (some g) := by
  have k3 : w.cell? ⟨g, 3, none⟩ = some ve := by rw [hb.cell]; rfl
  have f3 := hb.free 3
  go_enter Try.func39, Try.ntmps39
  go_wp2_with fail
  go_ret
  exact ⟨rfl, hb.set 3 (.int .i64 2), grown_setCell (World.grownBy.refl _ _) _ _⟩
end Go.Proofs.Ytjikoeokmdnciaa
