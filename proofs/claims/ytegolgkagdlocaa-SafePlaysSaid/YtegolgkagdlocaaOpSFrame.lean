/- How an argument of the commands of 'safe' reads. Conditions: none. -/
import Derived.Test.YtegolgkagdlocaaFileFrame
import Derived.Test.YtegolgkagdlocaaOpS
namespace Go.Proofs.Ytegolgkagdlocaa
open Go.ChangeShapes Go.WideShapes Go.RowKit Go.Deep Go.Dol
set_option linter.unusedVariables false
section
variable {H : Type} {enc : TypeId × Value → H} {W : World}
/-- What a command was read from. -/
def OpPart (x : OpS) (dd : DataW H) : Prop := ∃ p0 dz p3, dd = .agg [p0, .lit (.string x.a.data.toList), dz, p3] ∧ (dz = .nil ∧ x.l.length = 0 ∨ ∃ es sp, dz = .slice es sp ∧ es.length = x.l.length)
set_option maxRecDepth 100000 in
/-- An argument of commands. -/
theorem opS_in {v : Value} {d : DataW H} {ps : List MemPlace} (A : Option Addr) (len cap : Nat) (hv : v = .slice A len cap) (h : DataW.Trod enc Try.prog W 0 (fun _ => true) true 50 v d ps) :
    ∃ l : List OpS, l.length = len ∧ Rd W W.heap.size 4 A len (o4 l) ∧ OpS8 W W.heap.size l ∧ (d = .nil ∧ len = 0 ∨ ∃ es sp, d = .slice es sp ∧ es.length = len) ∧ (∀ x ∈ l, ∃ es sp dd, d = .slice es sp ∧ dd ∈ es ∧ OpPart x dd) := by
  subst hv
  obtain ⟨fuel, hf⟩ := h
  rcases open_slice_fields Try.underlying50 Try.underlying52 (by kernel_rfl) (by kernel_rfl) hf with ⟨hcs, hx⟩ | ⟨a, len', cap', m, D, Pl, hcs, _, hl, hm, hmm, hx, hg⟩
  · simp [Value.cells] at hcs
    obtain ⟨rfl, rfl, rfl⟩ := hcs
    exact ⟨[], rfl, Rd.nil, fun x hx => (List.not_mem_nil hx).elim, .inl ⟨(Prod.mk.inj hx).1, rfl⟩, fun x hx => (List.not_mem_nil hx).elim⟩
  · simp [Value.cells] at hcs
    obtain ⟨rfl, rfl, rfl⟩ := hcs
    obtain ⟨l, hll, hle⟩ := list_of (p := fun i (x : OpS) => (W.cell? (a.add (i * 4 + 0)) = some (.int .i64 x.k) ∧ W.cell? (a.add (i * 4 + 1)) = some (.string x.a) ∧ W.cell? (a.add (i * 4 + 2)) = some (.slice x.A x.l.length x.c) ∧ W.cell? (a.add (i * 4 + 3)) = some (.int .i64 x.n)) ∧
        (Far W W.heap.size x.A x.l ∧ x.l.length ≤ x.c ∧ x.c ≤ maxLen) ∧ x.a.size ≤ maxLen ∧ (Lit.int .i64 x.k).wf = true ∧ (Lit.int .i64 x.n).wf = true ∧ OpPart x (D i)) len (fun i hi => by
      obtain ⟨ys, n, hD, _, hyl, hgg⟩ := hg i (by simp at hmm; omega)
      obtain ⟨u0, z0, a0, y0, t0⟩ := hgg 0 _ rfl
      obtain ⟨u1, z1, a1, y1, t1⟩ := hgg 1 _ rfl
      obtain ⟨u3, z3, a3, y3, t3⟩ := hgg 2 _ rfl
      obtain ⟨u4, z4, a4, y4, t4⟩ := hgg 3 _ rfl
      obtain ⟨k, e0, _, wf0⟩ := DataW.trod_int Try.underlying3 t0
      obtain rfl : u0 = .int .i64 k := by simpa using e0
      obtain ⟨s1, e1, e1', w1⟩ := DataW.trod_string Try.underlying9 t1
      obtain rfl : u1 = .string s1 := by simpa using e1
      obtain ⟨q, e4, _, wf4⟩ := DataW.trod_int Try.underlying3 t4
      obtain rfl : u4 = .int .i64 q := by simpa using e4
      have hys : ys = [z0, z1, z3, z4] := by
        match ys, hyl with
        | [p, q, r, t], _ =>
          have q0 : p = z0 := by simpa using y0
          have q1 : q = z1 := by simpa using y1
          have q2 : r = z3 := by simpa using y3
          have q3 : t = z4 := by simpa using y4
          rw [q0, q1, q2, q3]
      have hz1 : z1.1 = .lit (.string s1.data.toList) := by rw [e1']
      have key : ∀ (A : Option Addr) (ln cp : Nat), u3 = .slice A ln cp → ∃ x : OpS, (W.cell? (a.add (i * 4 + 0)) = some (.int .i64 x.k) ∧ W.cell? (a.add (i * 4 + 1)) = some (.string x.a) ∧ W.cell? (a.add (i * 4 + 2)) = some (.slice x.A x.l.length x.c) ∧ W.cell? (a.add (i * 4 + 3)) = some (.int .i64 x.n)) ∧
        (Far W W.heap.size x.A x.l ∧ x.l.length ≤ x.c ∧ x.c ≤ maxLen) ∧ x.a.size ≤ maxLen ∧ (Lit.int .i64 x.k).wf = true ∧ (Lit.int .i64 x.n).wf = true ∧ OpPart x (D i) := by
        intro A ln cp hu
        subst hu
        obtain ⟨b, hb, hr, hc, hcm, hd⟩ := bytes_in (d := z3.1) (ps := z3.2) ⟨n, t3⟩
        subst hb
        exact ⟨⟨k, s1, b, A, cp, q⟩, ⟨a0, a1, a3, a4⟩, ⟨Far.of_rd hr (Nat.le_refl _), hc, hcm⟩, w1, wf0, wf4, z0.1, z3.1, z4.1, by rw [hD, hys]; simp only [List.map_cons, List.map_nil, hz1], hd⟩
      rcases open_ints Try.underlying23 Try.underlying5 (by kernel_rfl) t3 with ⟨hcs, _⟩ | ⟨x, l1, c1, zs, hcs, _⟩
      · exact key none 0 0 (by simpa using hcs)
      · exact key (some x) l1 c1 (by simpa using hcs))
    have hd : d = .slice ((List.range len).map D) ((List.range (m - len)).map fun j => D (len + j)) := (Prod.mk.inj hx).1
    refine ⟨l, hll, ?_, fun x hx => ?_, .inr ⟨_, _, hd, by simp⟩, fun x hx => by
      obtain ⟨i, hi⟩ := List.getElem?_of_mem hx
      have hil := (List.getElem?_eq_some_iff.1 hi).1
      exact ⟨_, _, D i, hd, List.mem_map.2 ⟨i, List.mem_range.2 (by omega), rfl⟩, (hle i x hi).2.2.2.2.2⟩⟩
    · refine rd_of_cells (by omega) (by rw [o4_length, hll]) fun j u hu => ?_
      have hj := (List.getElem?_eq_some_iff.1 hu).1
      rw [o4_length] at hj
      have hk : j / 4 < l.length := by omega
      have hat := o4_at (List.getElem?_eq_getElem hk) (j % 4) (by omega)
      obtain ⟨c0, c1, c2, c3⟩ := (hle (j / 4) _ (List.getElem?_eq_getElem hk)).1
      have e : j = j / 4 * 4 + j % 4 := by omega
      rw [e] at hu ⊢
      rw [hat] at hu
      have h5 : j % 4 = 0 ∨ j % 4 = 1 ∨ j % 4 = 2 ∨ j % 4 = 3 := by omega
      rcases h5 with h5 | h5 | h5 | h5 <;> rw [h5] at hu ⊢ <;> rw [← hu]
      · exact c0
      · exact c1
      · exact c2
      · exact c3
    · obtain ⟨i, hi⟩ := List.getElem?_of_mem hx
      obtain ⟨_, h1, h2, h3, h4, _⟩ := hle i x hi
      exact ⟨h1, h2, h3, h4⟩
end
/-- The form's reach, of a script. -/
theorem reach_opS {H : Type} {ts : List TypeId} {ds : List (DataW H)} {j : Nat} {d : DataW H} {len : Nat} (h : (DataW.weightsEach Try.prog ts ds).all (· ≤ reachBytes) = true) (ht : ts[j]? = some 50) (hd : ds[j]? = some d)
    (hl : d = .nil ∧ len = 0 ∨ ∃ es sp, d = .slice es sp ∧ es.length = len) : len ≤ 140737488351232 := by
  rcases hl with ⟨_, rfl⟩ | ⟨es, sp, rfl, rfl⟩
  · omega
  · have h1 := sized_slice h ht hd Try.underlying50
    have h2 : Try.prog.bytesOf 52 = 56 := by kernel_rfl
    rw [h2] at h1
    have h3 : reachBytes = 140737488351232 := by decide
    omega
/-- The form's reach, of a script's parts. -/
theorem reach_opS2 {H : Type} {ts : List TypeId} {ds : List (DataW H)} {j : Nat} {d : DataW H} {l : List OpS} (h : (DataW.weightsEach Try.prog ts ds).all (· ≤ reachBytes) = true) (ht : ts[j]? = some 50) (hd : ds[j]? = some d)
    (hp : ∀ x ∈ l, ∃ es sp dd, d = .slice es sp ∧ dd ∈ es ∧ OpPart x dd) : ∀ x ∈ l, x.a.size ≤ 140737488351232 ∧ x.l.length ≤ 140737488351232 := by
  have h3 : reachBytes = 140737488351232 := by decide
  intro x hx
  obtain ⟨es, sp, dd, rfl, hm, p0, dz, p3, rfl, hz⟩ := hp x hx
  have hall : ∀ n ∈ DataW.weights Try.prog 52 (.agg [p0, .lit (.string x.a.data.toList), dz, p3] : DataW H), n ≤ reachBytes := by
    intro n hn
    have h1 := List.all_eq_true.1 h n (DataW.weights_mem_each ht hd n (by
      simp only [DataW.weights, Try.underlying50, List.mem_cons, List.mem_append]
      exact .inr (.inl (weightsAll_mem hm n hn))))
    simpa using h1
  have hn : x.a.data.toList.length = x.a.size := by rw [Array.length_toList]; rfl
  constructor
  · have h1 := hall x.a.data.toList.length (by simp [DataW.weights, Try.underlying52, DataW.weightsEach])
    omega
  · rcases hz with ⟨_, h0⟩ | ⟨es', sp', rfl, h0⟩
    · omega
    · have h1 := hall ((es'.length + sp'.length) * Try.prog.bytesOf 5) (by simp [DataW.weights, Try.underlying52, Try.underlying23, DataW.weightsEach])
      have h2 : Try.prog.bytesOf 5 = 1 := by kernel_rfl
      rw [h2] at h1
      omega
end Go.Proofs.Ytegolgkagdlocaa
