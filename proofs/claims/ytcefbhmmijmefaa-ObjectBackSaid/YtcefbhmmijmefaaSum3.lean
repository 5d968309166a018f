/- The walks of the layer 'sum', its third part: the first state; a run. Conditions: bytes that are made fit 2^47. -/
import Derived.Test.YtcefbhmmijmefaaSum2
import Derived.Deep.LoopGhost
namespace Go.Proofs.Ytcefbhmmijmefaa
open Go.RowKit Go.Dol
set_option linter.unusedVariables false

theorem first_list : first = [2654435769, 1013904242, 3668340011, 2027808484, 387276957, 3041712726, 1401181199, 4055616968] := by decide

def upTo (k : Nat) : List Int := (List.range 8).map fun j => if j < k then getI first j else 0
theorem upTo_zero : upTo 0 = [0, 0, 0, 0, 0, 0, 0, 0] := by decide
theorem upTo_all : upTo 8 = first := by decide
theorem upTo_length (k : Nat) : (upTo k).length = 8 := by simp [upTo]
theorem upTo_set (k : Nat) (hk : k < 8) : (upTo k).set k (((k : Int) + 1) * 2654435769 % 4294967296) = upTo (k + 1) := by
  have h : ∀ k : Fin 8, (upTo k).set k (((k.val : Int) + 1) * 2654435769 % 4294967296) = upTo (k + 1) := by decide
  exact h ⟨k, hk⟩

def FirstRel (w : World) (g : Nat) (i : Value) (wr : World) : Prop :=
  ∃ k : Nat, i = .int .i64 k ∧ k ≤ 8 ∧ Blk wr g 87 (wc (upTo k)) ∧ Blk wr w.heap.size 87 (wc (upTo 0)) ∧ Below w.heap.size w wr

set_option maxRecDepth 100000 in
set_option maxHeartbeats 400000 in
theorem first_calls (w : World) : Calls Try.prog 68 #[] w fun e w' => e = .returned (.agg (wc first).toArray) ∧ Below w.heap.size w w' := by
  go_enter Try.func68, Try.ntmps68
  go_wp2_with fail
  go_loopw [3] (fun i wr => FirstRel w (w.heap.size + 1) i wr) (fun i _ => 8 - (intOf i).toNat)
  case atStart =>
    refine ⟨0, rfl, by omega, ?_, ?_, ((Below.refl _ _).alloc (Nat.le_refl _) _).alloc (by simp) _⟩
    · rw [upTo_zero]
      have := Blk.new (w.alloc (.cells (wc [0, 0, 0, 0, 0, 0, 0, 0]).toArray 87)) 87 (wc [0, 0, 0, 0, 0, 0, 0, 0])
      rw [World.size_alloc] at this
      exact this
    · rw [upTo_zero]
      exact (Blk.new w _ _).alloc _
  case round =>
    obtain ⟨k, rfl, hk, hb1, hb0, hbel⟩ := hrel
    have hs := hbel.size
    by_cases hlt : k < 8
    · have hc : wr.cell? ⟨w.heap.size + 1, k, none⟩ = some (.int .u32 ((upTo k)[k]?.getD 0)) := by
        rw [hb1.cell]
        simp [wc, List.getElem?_eq_getElem (show k < (upTo k).length by rw [upTo_length]; exact hlt)]
      have hf := hb1.free k
      have hu : IntKind.u32.wrap ((k : Int) + 1) = (k : Int) + 1 := by rw [IntKind.wrap_u32]; omega
      go_wp2_with fail
      refine ⟨⟨k + 1, by go_num, by omega, ?_, hb0.far (p := ⟨w.heap.size + 1, k, none⟩) (by simp) _, hbel.setCell (by simp) _⟩, by simp [intOf]; omega⟩
      have h1 := hb1.set k (.int .u32 (((k : Int) + 1) * 2654435769 % 4294967296))
      have h2 := wc_set (upTo k) [] (i := k) (by rw [upTo_length]; exact hlt) (((k : Int) + 1) * 2654435769 % 4294967296)
      simp only [List.append_nil] at h2
      rw [h2, upTo_set k hlt] at h1
      exact h1
    · have hk8 : k = 8 := by omega
      have HK := Lib.hid hk8
      rw [hk8, upTo_all] at hb1
      clear hk8
      have hlen : (wc first).length = 8 := by rw [wc_length]; exact first_words.1
      obtain ⟨w2, hrun, hb2, hg2⟩ := hb0.store (P := Try.prog) 0 (wc first) (by rw [hlen, wc_length, upTo_length]; omega) (wc_one first)
      have hb2' : Blk w2 w.heap.size 87 (wc first) := by
        have e : (wc (upTo 0)).drop (0 + (wc first).length) = [] := List.drop_eq_nil_of_le (by rw [hlen, wc_length, upTo_length]; omega)
        rw [e, List.append_nil, List.take_zero, List.nil_append] at hb2
        exact hb2
      clear hb2
      go_wp2_with (refine wpList_load_row rfl 87 _ rfl (w.heap.size + 1) rfl _ _ _ _ hb1 Try.underlying87 rfl (by kernel_rfl) ?_)
      exact bodyPost_ret (results_cell_row (P := Try.prog) rfl _ w2 w.heap.size 87 (wc first).toArray (0, 0) _ rfl hb2' Try.underlying87 rfl (by rw [List.size_toArray, hlen]; kernel_rfl)) rfl
        ⟨rfl, hbel.grown hg2 hs (fun k hk => by injection hk with hk; omega)⟩
end Go.Proofs.Ytcefbhmmijmefaa
