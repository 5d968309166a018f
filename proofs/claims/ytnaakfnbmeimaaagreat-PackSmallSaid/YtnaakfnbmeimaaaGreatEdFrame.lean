/- How an argument of edits reads; what the form's reach says of it. Conditions: none. -/
import Derived.Test.YtnaakfnbmeimaaaGreatObjFrame
import Derived.Test.YtnaakfnbmeimaaaGreatPackSmallLaw
namespace Go.Proofs.YtnaakfnbmeimaaaGreat
open Go.Joins Go.ChangeShapes Go.WideShapes Go.RowKit Go.Deep Go.Dol
set_option linter.unusedVariables false
section
variable {H : Type} {enc : TypeId × Value → H} {W : World}
set_option maxRecDepth 100000 in
/-- An argument of edits. -/
theorem eds_in {d : DataW H} {ps : List MemPlace} (A : Option Addr) (len cap : Nat) (h : DataW.Trod enc Tryz.prog W 0 (fun _ => true) true 68 (.slice A len cap) d ps) :
    ∃ l : List EdA, l.length = len ∧ Rd W W.heap.size 3 A len (edc l) ∧ Eds W W.heap.size l ∧ (d = .nil ∧ len = 0 ∨ ∃ es sp, d = .slice es sp ∧ es.length = len) := by
  obtain ⟨fuel, hf⟩ := h
  rcases open_slice_fields Tryz.underlying68 Tryz.underlying74 (by kernel_rfl) (by kernel_rfl) hf with ⟨hcs, hx⟩ | ⟨a, len', cap', m, D, Pl, hcs, _, hl, hm, hmm, hx, hg⟩
  · simp [Value.cells] at hcs
    obtain ⟨rfl, rfl, rfl⟩ := hcs
    exact ⟨[], rfl, Rd.nil, fun x hx => (List.not_mem_nil hx).elim, .inl ⟨(Prod.mk.inj hx).1, rfl⟩⟩
  · simp [Value.cells] at hcs
    obtain ⟨rfl, rfl, rfl⟩ := hcs
    obtain ⟨l, hll, hle⟩ := list_of (p := fun i (x : EdA) => (W.cell? (a.add (i * 3 + 0)) = some (.int .i64 x.at') ∧ W.cell? (a.add (i * 3 + 1)) = some (.int .i64 x.gone) ∧ W.cell? (a.add (i * 3 + 2)) = some (.slice x.A x.l.length x.c)) ∧
        Rd W W.heap.size 1 x.A x.l.length (bc x.l) ∧ x.l.length ≤ x.c ∧ x.c ≤ maxLen) len (fun i hi => by
      obtain ⟨ys, n, hD, _, hyl, hgg⟩ := hg i (by simp at hmm; omega)
      obtain ⟨u0, z0, a0, y0, t0⟩ := hgg 0 _ rfl
      obtain ⟨u1, z1, a1, y1, t1⟩ := hgg 1 _ rfl
      obtain ⟨u3, z3, a3, y3, t3⟩ := hgg 2 _ rfl
      obtain ⟨k, e0, _, wf0⟩ := DataW.trod_int Tryz.underlying3 t0
      obtain rfl : u0 = .int .i64 k := by simpa using e0
      obtain ⟨q, e1, _, wf1⟩ := DataW.trod_int Tryz.underlying3 t1
      obtain rfl : u1 = .int .i64 q := by simpa using e1
      have key : ∀ (A : Option Addr) (ln cp : Nat), u3 = .slice A ln cp → ∃ x : EdA, (W.cell? (a.add (i * 3 + 0)) = some (.int .i64 x.at') ∧ W.cell? (a.add (i * 3 + 1)) = some (.int .i64 x.gone) ∧ W.cell? (a.add (i * 3 + 2)) = some (.slice x.A x.l.length x.c)) ∧
        Rd W W.heap.size 1 x.A x.l.length (bc x.l) ∧ x.l.length ≤ x.c ∧ x.c ≤ maxLen := by
        intro A ln cp hu
        subst hu
        obtain ⟨b, hb, hr, hc, hcm, hd⟩ := bytes_in (d := z3.1) (ps := z3.2) ⟨n, t3⟩
        subst hb
        exact ⟨⟨k, q, A, b, cp⟩, ⟨a0, a1, a3⟩, hr, hc, hcm⟩
      rcases open_ints Tryz.underlying25 Tryz.underlying5 (by kernel_rfl) t3 with ⟨hcs, _⟩ | ⟨x, l1, c1, zs, hcs, _⟩
      · exact key none 0 0 (by simpa using hcs)
      · exact key (some x) l1 c1 (by simpa using hcs))
    have hd : d = .slice ((List.range len).map D) ((List.range (m - len)).map fun j => D (len + j)) := (Prod.mk.inj hx).1
    refine ⟨l, hll, ?_, fun x hx => ?_, .inr ⟨_, _, hd, by simp⟩⟩
    · refine rd_of_cells (by omega) (by rw [edc_length, hll]) fun j u hu => ?_
      have hj := (List.getElem?_eq_some_iff.1 hu).1
      rw [edc_length] at hj
      have hk : j / 3 < l.length := by omega
      have hat := edc_get (List.getElem?_eq_getElem hk) (j % 3) (by omega)
      obtain ⟨c0, c1, c2⟩ := (hle (j / 3) _ (List.getElem?_eq_getElem hk)).1
      have e : j = j / 3 * 3 + j % 3 := by omega
      rw [e] at hu ⊢
      rw [hat] at hu
      have h5 : j % 3 = 0 ∨ j % 3 = 1 ∨ j % 3 = 2 := by omega
      rcases h5 with h5 | h5 | h5 <;> rw [h5] at hu ⊢
      · obtain rfl := Option.some.inj hu; exact c0
      · obtain rfl := Option.some.inj hu; exact c1
      · obtain rfl := Option.some.inj hu; exact c2
    · obtain ⟨i, hi⟩ := List.getElem?_of_mem hx
      exact (hle i x hi).2
end
/-- The form's reach, of edits. -/
theorem reach_eds {H : Type} {ts : List TypeId} {ds : List (DataW H)} {j : Nat} {d : DataW H} {len : Nat} (h : (DataW.weightsEach Tryz.prog ts ds).all (· ≤ reachBytes) = true) (ht : ts[j]? = some 68) (hd : ds[j]? = some d)
    (hl : d = .nil ∧ len = 0 ∨ ∃ es sp, d = .slice es sp ∧ es.length = len) : len ≤ 140737488351232 := by
  rcases hl with ⟨_, rfl⟩ | ⟨es, sp, rfl, rfl⟩
  · omega
  · have h1 := sized_slice h ht hd Tryz.underlying68
    have h2 : Tryz.prog.bytesOf 74 = 40 := by kernel_rfl
    rw [h2] at h1
    have h3 : reachBytes = 140737488351232 := by decide
    omega
end Go.Proofs.YtnaakfnbmeimaaaGreat
