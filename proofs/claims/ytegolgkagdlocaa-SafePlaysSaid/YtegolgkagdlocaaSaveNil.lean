/- Save and Sweep at a disk that was never made. Conditions: none. -/
import Derived.Test.YtegolgkagdlocaaNone
import Derived.Test.YtegolgkagdlocaaSafeB
namespace Go.Proofs.Ytegolgkagdlocaa
open Go.RowKit Go.Dol Go.Shelf
attribute [local go_sem] Oper.semAt_some
set_option linter.unusedVariables false
section
variable {w : World}
set_option maxRecDepth 100000 in
set_option maxHeartbeats 800000 in
theorem SweepNil_calls (w : World) : Calls Try.prog 23 #[.pointer none] w fun e w' => e = .returned (.int .i64 1) ∧ w' = w := by
  have HR := Lib.hid (ReadN_calls (Unm.nil w) ⟨#[126]⟩)
  go_enter Try.func23, Try.ntmps23
  go_wp2_with ((go_at_call 15; (with_reducible refine HR.out.mono ?_); rintro e z0 ⟨rfl, hz0⟩; obtain rfl := hz0.symm))
  go_ret
  exact ⟨rfl, rfl⟩
set_option maxRecDepth 100000 in
set_option maxHeartbeats 1600000 in
theorem SaveNil_calls (n : ByteArray) (hn : n.size ≤ 200) (A : Option Addr) (l c : Nat) (w : World) :
    Calls Try.prog 13 #[.pointer none, .string n, .slice A l c] w fun e w' => e = .returned (.int .i64 1) ∧ Below w.heap.size w w' := by
  have hsz : n.size + 1 ≤ maxLen := by unfold maxLen; omega
  have hb1 := (Below.refl w.heap.size w).alloc (Nat.le_refl _) (.cells #[.pointer none] 25)
  have hb2 := hb1.alloc hb1.size (.cells #[.int .i64 0] 29)
  have hb3 := hb2.alloc hb2.size (.cells #[.string (n ++ ⟨#[126]⟩)] 9)
  have hX := ((Blk.new w 25 [.pointer none]).alloc (.cells #[.int .i64 0] 29)).alloc (.cells #[.string (n ++ ⟨#[126]⟩)] 9)
  have hY := (Blk.new (w.alloc (.cells #[.pointer none] 25)) 29 [.int .i64 0]).alloc (.cells #[.string (n ++ ⟨#[126]⟩)] 9)
  have hZ := Blk.new ((w.alloc (.cells #[.pointer none] 25)).alloc (.cells #[.int .i64 0] 29)) 9 [.string (n ++ ⟨#[126]⟩)]
  rw [World.size_alloc] at hY
  rw [World.size_alloc, World.size_alloc] at hZ
  obtain ⟨W3, hW3⟩ : ∃ W, W = ((w.alloc (.cells #[.pointer none] 25)).alloc (.cells #[.int .i64 0] 29)).alloc (.cells #[.string (n ++ ⟨#[126]⟩)] 9) := ⟨_, rfl⟩
  have hX3 : Blk W3 w.heap.size 25 [.pointer none] := by rw [hW3]; exact hX
  have hY3 : Blk W3 (w.heap.size + 1) 29 [.int .i64 0] := by rw [hW3]; exact hY
  have hZ3 : Blk W3 (w.heap.size + 1 + 1) 9 [.string (n ++ ⟨#[126]⟩)] := by rw [hW3]; exact hZ
  have hB3 : Below w.heap.size w W3 := by rw [hW3]; exact hb3
  have HR := Lib.hid (ReadN_calls (Unm.nil W3) (n ++ ⟨#[126]⟩))
  clear hX hY hZ hb1 hb2 hb3
  refine (callsIn_wide (n := 6)).1 ?_
  refine callsIn_of_wp_marks Try.func13 rfl trivial ?_ rfl
  simp only [Try.ntmps13, List.size_toArray, List.length_cons, List.length_nil, Nat.reduceAdd, Nat.reduceSub, Array.replicate_succ, Array.replicate_zero, List.push_toArray, List.append_toArray, List.nil_append, List.cons_append]
  gi_wp2
  rw [← hW3]
  clear hW3
  refine ⟨trivial, ?_⟩
  refine (callsIn_wide.2 HR.out).mono ?_
  rintro e w1 ⟨rfl, hw1⟩
  obtain rfl := hw1.symm
  have y1 : W3.cell? ⟨w.heap.size, 0, none⟩ = some (.pointer none) := by rw [hX3.cell]; rfl
  have y2 : W3.cell? ⟨w.heap.size + 1, 0, none⟩ = some (.int .i64 0) := by rw [hY3.cell]; rfl
  have z2 := hY3.free 0
  have y3 : W3.cell? ⟨w.heap.size + 1 + 1, 0, none⟩ = some (.string (n ++ ⟨#[126]⟩)) := by rw [hZ3.cell]; rfl
  clear hX3 hZ3 HR
  gi_wp2
  refine ⟨trivial, ?_⟩
  gi_wp2
  have hY5 := hY3.set 0 (.int .i64 1)
  have hb5 : Below w.heap.size w (W3.setCell ⟨w.heap.size + 1, 0, none⟩ (.int .i64 1)) := hB3.grown (row := some (w.heap.size + 1)) (grown_setCell (World.grownBy.refl W3 _) 0 _) hB3.size (fun j e => by injection e with e; omega)
  exact ⟨_, results_one_cell (p := 6) (ty := 29) (by kernel_rfl) _ _ ⟨w.heap.size + 1, 0, none⟩ (.int .i64 1) (by rfl) (errno_cell _ _ _ (by rw [hY5.cell]; rfl)), rfl, hb5⟩
end
end Go.Proofs.Ytegolgkagdlocaa
