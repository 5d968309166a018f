/- The walks of the layer 'disk', its second part: what is asked of a disk that no write turns. Conditions: names below 2^63, lengths below 2^47. -/
import Derived.Test.YtegolgkagdlocaaDisk2
import Derived.Test.YtegolgkagdlocaaAppV
import Derived.Laws.Cover3
namespace Go.Dol
open Go.RowKit
set_option linter.unusedVariables false
/-- May a raw write be done? -/
def rdD (D : Dk) (ns : List ByteArray) : Int := if ns.all nameB = false then 1 else if D.dark = true then 5 else 0
def thD (D : Dk) (ns : List ByteArray) (n : ByteArray) : Int := if rdD D (ns ++ [n]) ≠ 0 then rdD D (ns ++ [n]) else if (lookF D.l n).isSome = true then 0 else 3
def costD (D : Dk) (n : ByteArray) : Int := match lookF D.l n with | none => 0 | some b => 16 + n.size + b.length
theorem wrap_again (x : Int) : IntKind.i64.wrap (IntKind.i64.wrap x) = IntKind.i64.wrap x := by
  simp only [IntKind.wrap, IntKind.bits, IntKind.signed]
  simp
  split <;> split <;> omega
theorem nameB_size {n : ByteArray} (h : nameB n = true) : n.size ≤ 200 := by
  unfold nameB at h
  simp only [Bool.and_eq_true, decide_eq_true_eq] at h
  exact h.1.2
end Go.Dol
namespace Go.Proofs.Ytegolgkagdlocaa
open Go.RowKit Go.Dol
set_option linter.unusedVariables false
theorem info_st : (Try.prog.info? 9).map (fun i => (i.zero, i.size, i.bytes)) = some (some (.string ⟨#[]⟩), 1, 16) := by kernel_rfl

theorem map_made (m : Nat) (w : World) : (binOp .neq 70 (.map (some m)) (.map none)).run Try.prog w = .ok (.bool true) w := run_neq_map_nil w _ _ _ _ Try.underlying70
/-- The cells of a disk, one by one. -/
theorem Dsk.cells {w : World} {g m : Nat} {D : Dk} (h : Dsk w g m D) : w.cell? ⟨g, 0, none⟩ = some (.int .i64 D.cap) ∧ w.cell? ⟨g, 1, none⟩ = some (.map (some m)) ∧ w.cell? ⟨g, 2, none⟩ = some (.int .i64 (frD D)) ∧
    w.cell? ⟨g, 3, none⟩ = some (.int .i64 (opsD D.done)) ∧ w.cell? ⟨g, 4, none⟩ = some (.int .i64 D.left) ∧ w.cell? ⟨g, 5, none⟩ = some (.bool D.dark) := by
  obtain ⟨al, hB, _⟩ := h
  exact ⟨by rw [hB.cell]; rfl, by rw [hB.cell]; rfl, by rw [hB.cell]; rfl, by rw [hB.cell]; rfl, by rw [hB.cell]; rfl, by rw [hB.cell]; rfl⟩
theorem Dsk.free {w : World} {g m : Nat} {D : Dk} (h : Dsk w g m D) (i : Nat) : w.frozen? ⟨g, i, none⟩ = false := by
  obtain ⟨al, hB, _⟩ := h
  exact hB.free i

section
variable {w : World} {g m : Nat} {D : Dk}
set_option maxRecDepth 100000 in
set_option maxHeartbeats 800000 in
theorem made_calls (h : Dsk w g m D) : Calls Try.prog 42 #[.pointer (some ⟨g, 0, none⟩)] w fun e w' => e = .returned (.bool true) ∧ w' = w := by
  obtain ⟨k0, k1, k2, k3, k4, k5⟩ := h.cells
  have hm := map_made m w
  go_enter Try.func42, Try.ntmps42
  go_wp2_with fail
  go_ret
  exact ⟨rfl, rfl⟩
set_option maxRecDepth 100000 in
set_option maxHeartbeats 800000 in
theorem madeNil_calls (w : World) : Calls Try.prog 42 #[.pointer none] w fun e w' => e = .returned (.bool false) ∧ w' = w := by
  go_enter Try.func42, Try.ntmps42
  go_wp2_with fail
  go_ret
  exact ⟨rfl, rfl⟩

set_option maxRecDepth 100000 in
set_option maxHeartbeats 800000 in
theorem ready_calls (h : Dsk w g m D) (B : Nat) (A : Option Addr) (ns : List ByteArray) (n c : Nat) (hn : n = ns.length) (hr : Rd w B 1 A n (sc ns)) (hl : ns.length ≤ 140737488355328) :
    Calls Try.prog 50 #[.pointer (some ⟨g, 0, none⟩), .slice A n c] w fun e w' => e = .returned (.int .i64 (rdD D ns)) ∧ w' = w := by
  subst hn
  obtain ⟨k0, k1, k2, k3, k4, k5⟩ := h.cells
  obtain ⟨r, hr0⟩ : ∃ r, r = rdD D ns := ⟨_, rfl⟩
  rw [← hr0]
  cases hB : ns.all nameB with
  | false =>
    have HF : Hid (r = 1) := by unfold Hid rdD at *; rw [hr0, if_pos hB]
    clear hr0
    have HB := Lib.hid hB
    clear hB
    go_enter Try.func50, Try.ntmps50
    go_wp2_with (first
      | (go_at_call 42; refine (made_calls h).mono ?_; rintro e w' ⟨rfl, rfl⟩)
      | (go_at_call 47; refine (named_calls B A ns c _ hr hl).mono ?_; rw [HB.out]; rintro e w' ⟨rfl, rfl⟩))
    go_ret
    rw [HF.out]
    exact ⟨rfl, rfl⟩
  | true =>
    cases hd : D.dark with
    | true =>
      have HF : Hid (r = 5) := by unfold Hid rdD at *; rw [hr0, if_neg (by rw [hB]; decide), if_pos hd]
      have HB := Lib.hid hB
      clear hr0 hB
      rw [hd] at k5
      go_enter Try.func50, Try.ntmps50
      go_wp2_with (first
        | (go_at_call 42; refine (made_calls h).mono ?_; rintro e w' ⟨rfl, rfl⟩)
        | (go_at_call 47; refine (named_calls B A ns c _ hr hl).mono ?_; rw [HB.out]; rintro e w' ⟨rfl, rfl⟩))
      go_ret
      rw [HF.out]
      exact ⟨rfl, rfl⟩
    | false =>
      have HF : Hid (r = 0) := by unfold Hid rdD at *; rw [hr0, if_neg (by rw [hB]; decide), if_neg (by rw [hd]; decide)]
      have HB := Lib.hid hB
      clear hr0 hB
      rw [hd] at k5
      go_enter Try.func50, Try.ntmps50
      go_wp2_with (first
        | (go_at_call 42; refine (made_calls h).mono ?_; rintro e w' ⟨rfl, rfl⟩)
        | (go_at_call 47; refine (named_calls B A ns c _ hr hl).mono ?_; rw [HB.out]; rintro e w' ⟨rfl, rfl⟩))
      go_ret
      rw [HF.out]
      exact ⟨rfl, rfl⟩

set_option maxRecDepth 100000 in
set_option maxHeartbeats 800000 in
theorem cost_calls (h : Dsk w g m D) (hO : InOrder D.l) (n : ByteArray) (hn : n.size ≤ 140737488355328) (hL : ∀ b, lookF D.l n = some b → b.length ≤ 140737488355328) :
    Calls Try.prog 40 #[.pointer (some ⟨g, 0, none⟩), .string n] w fun e w' => e = .returned (.int .i64 (costD D n)) ∧ w' = w := by
  obtain ⟨k0, k1, k2, k3, k4, k5⟩ := h.cells
  have hnm : n.size ≤ maxLen := by unfold maxLen; omega
  rcases h.find hO n hnm with ⟨hl, hf, _⟩ | ⟨b, A, c, hl, hF, hc, hcm, hf, _⟩
  · have HF : Hid (costD D n = 0) := by unfold Hid costD; rw [hl.out]
    have hf0 := hf w rfl
    clear hf
    go_enter Try.func40, Try.ntmps40
    go_wp2_with fail
    go_ret
    rw [HF.out]
    exact ⟨rfl, rfl⟩
  · have HF : Hid (costD D n = 16 + n.size + b.length) := by unfold Hid costD; rw [hl.out]
    have hb := hL b hl.out
    have f1 : IntKind.i64.wrap (16 + (n.size : Int)) = 16 + (n.size : Int) := IntWalk.i64_in _ (by omega)
    have f2 : IntKind.i64.wrap (16 + (n.size : Int) + (b.length : Int)) = 16 + (n.size : Int) + (b.length : Int) := IntWalk.i64_in _ (by omega)
    have hf0 := hf w rfl
    clear hf hL
    go_enter Try.func40, Try.ntmps40
    go_wp2_with fail
    go_ret
    rw [HF.out]
    exact ⟨rfl, rfl⟩

set_option maxRecDepth 100000 in
set_option maxHeartbeats 800000 in
theorem Has_calls (h : Dsk w g m D) (hO : InOrder D.l) (n : ByteArray) (hn : n.size ≤ maxLen) :
    Calls Try.prog 16 #[.pointer (some ⟨g, 0, none⟩), .string n] w fun e w' => e = .returned (.bool (lookF D.l n).isSome) ∧ w' = w := by
  obtain ⟨k0, k1, k2, k3, k4, k5⟩ := h.cells
  rcases h.find hO n hn with ⟨hl, hf, _⟩ | ⟨b, A, c, hl, hF, hc, hcm, hf, _⟩
  · have hf0 := hf w rfl
    clear hf
    go_enter Try.func16, Try.ntmps16
    go_wp2_with (go_at_call 42; refine (made_calls h).mono ?_; rintro e w' ⟨rfl, rfl⟩)
    go_ret
    rw [hl.out]
    exact ⟨rfl, rfl⟩
  · have hf0 := hf w rfl
    clear hf
    go_enter Try.func16, Try.ntmps16
    go_wp2_with (go_at_call 42; refine (made_calls h).mono ?_; rintro e w' ⟨rfl, rfl⟩)
    go_ret
    rw [hl.out]
    exact ⟨rfl, rfl⟩

set_option maxRecDepth 100000 in
set_option maxHeartbeats 800000 in
theorem Free_calls (h : Dsk w g m D) : Calls Try.prog 12 #[.pointer (some ⟨g, 0, none⟩)] w fun e w' => e = .returned (.int .i64 (frD D)) ∧ w' = w := by
  obtain ⟨k0, k1, k2, k3, k4, k5⟩ := h.cells
  go_enter Try.func12, Try.ntmps12
  go_wp2_with (go_at_call 42; refine (made_calls h).mono ?_; rintro e w' ⟨rfl, rfl⟩)
  go_ret
  exact ⟨rfl, rfl⟩
set_option maxRecDepth 100000 in
set_option maxHeartbeats 800000 in
theorem Off_calls (h : Dsk w g m D) : Calls Try.prog 34 #[.pointer (some ⟨g, 0, none⟩)] w fun e w' => e = .returned (.bool D.dark) ∧ w' = w := by
  obtain ⟨k0, k1, k2, k3, k4, k5⟩ := h.cells
  go_enter Try.func34, Try.ntmps34
  go_wp2_with (go_at_call 42; refine (made_calls h).mono ?_; rintro e w' ⟨rfl, rfl⟩)
  go_ret
  exact ⟨rfl, rfl⟩
set_option maxRecDepth 100000 in
set_option maxHeartbeats 800000 in
theorem Ops_calls (h : Dsk w g m D) : Calls Try.prog 17 #[.pointer (some ⟨g, 0, none⟩)] w fun e w' => e = .returned (.int .i64 (opsD D.done)) ∧ w' = w := by
  obtain ⟨k0, k1, k2, k3, k4, k5⟩ := h.cells
  have hL : Calls Try.prog 49 #[.pointer (some ⟨g, 3, none⟩)] w fun e w' => e = .returned (.int .i64 (opsD D.done)) ∧ w' = w := by
    have hl := run_call_load (P := Try.prog) Try.func75 (by kernel_rfl) (by kernel_rfl) (by kernel_rfl) .i64 (by kernel_rfl) k3
    go_enter Try.func49, Try.ntmps49
    go_wp2_with fail
    go_ret
    exact ⟨rfl, rfl⟩
  have hcv : ∀ x : Nat, (convert 2 3 (.int .i64 (opsD x))).run Try.prog w = .ok (.int .i64 (opsD x)) w := fun x => by unfold opsD; simp [go_sem, wrap_again]
  go_enter Try.func17, Try.ntmps17
  go_wp2_with (first
    | (go_at_call 42; refine (made_calls h).mono ?_; rintro e w' ⟨rfl, rfl⟩)
    | (go_at_call 49; refine hL.mono ?_; rintro e w' ⟨rfl, rfl⟩))
  go_ret
  exact ⟨rfl, rfl⟩
end
end Go.Proofs.Ytegolgkagdlocaa
