/- How an argument of rows of numbers, and one of numbers, reads; what the form's reach says of them. Conditions: none. -/
import Derived.Test.YteeajmgiamdfdaaGraphFrame
import Derived.Test.YteeajmgiamdfdaaFwd
import Derived.Deep.Matrix
import Derived.Deep.CondSized
namespace Go.Proofs.Yteeajmgiamdfdaa
open Go.ChangeShapes Go.WideShapes Go.RowKit Go.Deep Go.Dol
set_option linter.unusedVariables false
section
variable {H : Type} {enc : TypeId × Value → H} {W : World}
/-- An argument of rows of numbers. -/
theorem rows_in {d : DataW H} {ps : List MemPlace} (A : Option Addr) (len cap : Nat) (h : DataW.Trod enc Try.prog W 0 (fun _ => true) true 22 (.slice A len cap) d ps) :
    ∃ l : List RowA, l.length = len ∧ Rd W W.heap.size 1 A len (uc l) ∧ Rws W W.heap.size l ∧ (d = .nil ∧ len = 0 ∨ ∃ es sp, d = .slice es sp ∧ es.length = len) := by
  obtain ⟨fuel, hf⟩ := h
  rcases open_int_rows Try.underlying22 Try.underlying40 Try.underlying3 (by kernel_rfl) (by kernel_rfl) hf with ⟨hcs, hx⟩ | ⟨a, len', cap', A', L, C, Z, hcs, _, hl, hm, hx, hg⟩
  · simp [Value.cells] at hcs
    obtain ⟨rfl, rfl, rfl⟩ := hcs
    exact ⟨[], rfl, Rd.nil, (fun x hx => (List.not_mem_nil hx).elim), .inl ⟨(Prod.mk.inj hx).1, rfl⟩⟩
  · simp [Value.cells] at hcs
    obtain ⟨rfl, rfl, rfl⟩ := hcs
    obtain ⟨l, hll, hle⟩ := list_of (p := fun i (x : RowA) => W.cell? (a.add i) = some (.slice x.A x.zs.length x.c) ∧ Rd W W.heap.size 1 x.A x.zs.length (ic x.zs) ∧ x.zs.length ≤ maxLen) len (fun i hi => by
      obtain ⟨h1, h2, h3, h4, h5, h6, h7⟩ := hg i (by omega)
      have hlen : ((Z i).take (L i)).length = L i := by rw [List.length_take]; omega
      refine ⟨⟨(Z i).take (L i), A' i, C i⟩, by rw [hlen]; exact h1, ?_, by rw [hlen]; omega⟩
      cases hA : A' i with
      | none =>
        have h0 := h6 hA
        have hz : (Z i).take (L i) = [] := List.eq_nil_of_length_eq_zero (by omega)
        rw [hz]
        exact Rd.nil
      | some a' =>
        obtain ⟨_, hc⟩ := h7 a' hA
        refine rd_of_cells (by omega) (by rw [ic_length]; omega) fun j u hu => ?_
        have hj := (List.getElem?_eq_some_iff.1 hu).1
        rw [ic_length, hlen] at hj
        rw [hc j (by omega), ← hu]
        unfold ic
        rw [List.getElem?_map, List.getElem?_take, if_pos hj, List.getD, List.getElem?_eq_getElem (by omega)]
        rfl)
    refine ⟨l, hll, ?_, fun x hx => ?_, .inr ⟨_, _, (Prod.mk.inj hx).1, by simp⟩⟩
    · refine rd_of_cells (by omega) (by rw [uc_length]; omega) fun j u hu => ?_
      have hj := (List.getElem?_eq_some_iff.1 hu).1
      rw [uc_length] at hj
      have := (hle j _ (List.getElem?_eq_getElem hj)).1
      rw [this, ← hu]
      simp [uc, List.getElem?_eq_getElem hj]
    · obtain ⟨i, hi⟩ := List.getElem?_of_mem hx
      exact (hle i x hi).2
/-- An argument of numbers. -/
theorem ints_in {d : DataW H} {ps : List MemPlace} (A : Option Addr) (len cap : Nat) (h : DataW.Trod enc Try.prog W 0 (fun _ => true) true 40 (.slice A len cap) d ps) :
    ∃ l : List Int, l.length = len ∧ Rd W W.heap.size 1 A len (ic l) ∧ (d = .nil ∧ len = 0 ∨ ∃ es sp, d = .slice es sp ∧ es.length = len) := by
  obtain ⟨fuel, hf⟩ := h
  rcases open_ints Try.underlying40 Try.underlying3 (by kernel_rfl) hf with ⟨hcs, hx⟩ | ⟨a, l, c, zs, hcs, _, hl, hm, hz, hx, hcell, hwz⟩
  · simp [Value.cells] at hcs
    obtain ⟨rfl, rfl, rfl⟩ := hcs
    exact ⟨[], rfl, Rd.nil, .inl ⟨(Prod.mk.inj hx).1, rfl⟩⟩
  · simp [Value.cells] at hcs
    obtain ⟨rfl, rfl, rfl⟩ := hcs
    have hzl : zs.length = cap := by simpa using hz
    have hlen : (zs.take len).length = len := by rw [List.length_take]; omega
    refine ⟨zs.take len, hlen, ?_, .inr ⟨_, _, (Prod.mk.inj hx).1, by simp [lits]; omega⟩⟩
    refine ⟨by rw [ic_length]; omega, fun hn => ?_⟩
    obtain ⟨b, off, rfl, hc⟩ := ints_at hcell (by omega)
    refine ⟨b, off, rfl, World.block_lt_of_cell? W _ (hc 0 (by omega)), fun j u hu => ?_⟩
    have hj := (List.getElem?_eq_some_iff.1 hu).1
    rw [ic_length, hlen] at hj
    rw [hc j (by omega), ← hu]
    unfold ic
    rw [List.getElem?_map, List.getElem?_take, if_pos hj, List.getD, List.getElem?_eq_getElem (by omega)]
    rfl
/-- The form's reach, of any slice. -/
theorem reach_sl {ts : List TypeId} {ds : List (DataW H)} {j len : Nat} {t e : TypeId} {d : DataW H} (h : (DataW.weightsEach Try.prog ts ds).all (· ≤ reachBytes) = true) (ht : ts[j]? = some t) (hd : ds[j]? = some d) (hu : Try.prog.underlying t = some (.slice e))
    (he : 0 < Try.prog.bytesOf e) (hl : d = .nil ∧ len = 0 ∨ ∃ es sp, d = .slice es sp ∧ es.length = len) : len ≤ 140737488355328 := by
  have h3 : reachBytes = 140737488351232 := by decide
  rcases hl with ⟨_, rfl⟩ | ⟨es, sp, rfl, rfl⟩
  · omega
  · have h1 := sized_slice h ht hd hu
    have h2 : (es.length + sp.length) * 1 ≤ (es.length + sp.length) * Try.prog.bytesOf e := Nat.mul_le_mul_left _ he
    omega
end
end Go.Proofs.Yteeajmgiamdfdaa
