/- How an argument of commands reads. Conditions: none. -/
import Derived.Test.YtogjlfpoedeooaaFrame
import Derived.Test.YtogjlfpoedeooaaOp
import Derived.Deep.Slices
import Derived.Deep.Fields
import Derived.ChangeSame
namespace Go.Proofs.Ytogjlfpoedeooaa
open Go.ChangeShapes Go.WideShapes Go.RowKit Go.Deep Go.Dol
set_option linter.unusedVariables false

section
variable {H : Type} {enc : TypeId × Value → H} {P : Program} {w : World} {base : Nat} {spare : Nat → Bool} {held : Bool}
theorem open_slice_fields {t e : TypeId} {fs : Array Field} {fuel : Nat} {cs : List Value} {x : DataW H × List MemPlace} (ht : P.underlying t = some (.slice e)) (he : P.underlying e = some (.struct fs))
    (hone : oneCellFields P fs = true) (hC : P.cellsOf e = fs.size) (h : DataW.trod enc P w base spare held fuel t cs = some x) :
    (cs = [.slice none 0 0] ∧ x = (.nil, [])) ∨
    ∃ (a : Addr) (len cap m : Nat) (D : Nat → DataW H) (Pl : Nat → List MemPlace), cs = [.slice (some a) len cap] ∧ base ≤ a.block ∧ len ≤ cap ∧ cap ≤ maxLen ∧ m = (if spare a.block then cap else len) ∧
      x = (.slice ((List.range len).map D) ((List.range (m - len)).map fun j => D (len + j)), MemPlace.row a (m * fs.size) ++ (List.range m).flatMap Pl) ∧
      ∀ i, i < m → ∃ (ys : List (DataW H × List MemPlace)) (n : Nat), D i = .agg (ys.map (·.1)) ∧ Pl i = ys.flatMap (·.2) ∧ ys.length = fs.size ∧
        ∀ (j : Nat) (f : Field), fs[j]? = some f → ∃ (v : Value) (y : DataW H × List MemPlace), w.cell? (a.add (i * fs.size + j)) = some v ∧ ys[j]? = some y ∧ DataW.trod enc P w base spare held n f.type [v] = some y := by
  rcases open_slice ht h with h0 | ⟨a, len, cap, m, n, D, Pl, hcs, hb, hl, hm, hmm, hx, hi⟩
  · exact .inl h0
  · refine .inr ⟨a, len, cap, m, D, Pl, hcs, hb, hl, hm, hmm, by rw [hC] at hx; exact hx, fun i him => ?_⟩
    obtain ⟨cs', hc, ht'⟩ := hi i him
    rw [hC] at hc
    obtain ⟨ys, n', hn', hy, hlen, hyl, hf⟩ := DataW.trod_struct he ht'
    obtain ⟨_, hcl, hat⟩ := World.cells?_some hc
    simp only [Prod.mk.injEq] at hy
    refine ⟨ys, n', hy.1, hy.2, hyl, fun j f hj => ?_⟩
    obtain ⟨ho, hk⟩ := hone_of hone j f hj
    have hjl : j < fs.size := (Array.getElem?_eq_some_iff.1 hj).1
    have hcell := hat j hjl
    have hv : cs'[j]? = some (cs'[j]'(by omega)) := List.getElem?_eq_getElem (by omega)
    have h1 := hf j f hj
    rw [ho, hk] at h1
    have hone' : (cs'.drop j).take 1 = [cs'[j]'(by omega)] := by
      rw [List.drop_eq_getElem_cons (by omega)]
      rfl
    rw [hone'] at h1
    have hys : ys[j]? = some (ys[j]'(by omega)) := List.getElem?_eq_getElem (by omega)
    refine ⟨_, _, ?_, hys, h1.trans hys⟩
    rw [← Go.Deep.add_add, hcell, hv]
end

section
variable {H : Type} {enc : TypeId × Value → H} {W : World}
theorem rd_of_cells {a : Addr} {n size : Nat} {xs : List Value} (hs : 0 < size) (hl : xs.length = n * size) (h : ∀ j u, xs[j]? = some u → W.cell? (a.add j) = some u) : Rd W W.heap.size size (some a) n xs := by
  refine ⟨hl, fun hn => ?_⟩
  have hp : 0 < xs.length := by rw [hl]; exact Nat.mul_pos hn hs
  have h0 := h 0 _ (List.getElem?_eq_getElem hp)
  obtain ⟨b, off, spot⟩ := a
  have hspot : spot = none := by simpa [Addr.add] using World.cell?_spot h0
  subst hspot
  have hc : ∀ j u, xs[j]? = some u → W.cell? ⟨b, off + j, none⟩ = some u := fun j u hu => by rw [← Go.WideShapes.add_plain]; exact h j u hu
  exact ⟨b, off, rfl, World.block_lt_of_cell? W _ (hc 0 _ (List.getElem?_eq_getElem hp)), hc⟩
theorem list_of {α : Type} {p : Nat → α → Prop} : ∀ n, (∀ i, i < n → ∃ e, p i e) → ∃ l : List α, l.length = n ∧ ∀ i e, l[i]? = some e → p i e
  | 0, _ => ⟨[], rfl, fun i e h => by simp at h⟩
  | n + 1, h => by
    obtain ⟨l, hl, hp⟩ := list_of n fun i hi => h i (by omega)
    obtain ⟨e, he⟩ := h n (by omega)
    refine ⟨l ++ [e], by simp [hl], fun i u hu => ?_⟩
    by_cases hi : i < l.length
    · rw [List.getElem?_append_left hi] at hu
      exact hp i u hu
    · rw [List.getElem?_append_right (by omega)] at hu
      have h1 := (List.getElem?_eq_some_iff.1 hu).1
      simp only [List.length_singleton] at h1
      have h2 : i = n := by omega
      subst h2
      rw [hl, Nat.sub_self] at hu
      simp only [List.getElem?_cons_zero, Option.some.injEq] at hu
      rw [← hu]
      exact he
set_option maxRecDepth 100000 in
/-- An argument of commands. -/
theorem ops_in {v : Value} {d : DataW H} {ps : List MemPlace} (A : Option Addr) (len cap : Nat) (hv : v = .slice A len cap) (h : DataW.Trod enc Try.prog W 0 (fun _ => true) true 52 v d ps) :
    ∃ l : List OpA, l.length = len ∧ Rd W W.heap.size 5 A len (oc l) ∧ Ops8 W W.heap.size l ∧ (d = .nil ∧ len = 0 ∨ ∃ es sp, d = .slice es sp ∧ es.length = len) := by
  subst hv
  obtain ⟨fuel, hf⟩ := h
  rcases open_slice_fields Try.underlying52 Try.underlying56 (by kernel_rfl) (by kernel_rfl) hf with ⟨hcs, hx⟩ | ⟨a, len', cap', m, D, Pl, hcs, _, hl, hm, hmm, hx, hg⟩
  · simp [Value.cells] at hcs
    obtain ⟨rfl, rfl, rfl⟩ := hcs
    exact ⟨[], rfl, Rd.nil, fun x hx => (List.not_mem_nil hx).elim, .inl ⟨(Prod.mk.inj hx).1, rfl⟩⟩
  · simp [Value.cells] at hcs
    obtain ⟨rfl, rfl, rfl⟩ := hcs
    obtain ⟨l, hll, hle⟩ := list_of (p := fun i (x : OpA) => (W.cell? (a.add (i * 5 + 0)) = some (.int .i64 x.k) ∧ W.cell? (a.add (i * 5 + 1)) = some (.string x.a) ∧ W.cell? (a.add (i * 5 + 2)) = some (.string x.b) ∧ W.cell? (a.add (i * 5 + 3)) = some (.slice x.A x.l.length x.c) ∧ W.cell? (a.add (i * 5 + 4)) = some (.int .i64 x.n)) ∧
        (Far W W.heap.size x.A x.l ∧ x.l.length ≤ x.c ∧ x.c ≤ maxLen) ∧ x.a.size ≤ maxLen ∧ x.b.size ≤ maxLen ∧ (Lit.int .i64 x.k).wf = true ∧ (Lit.int .i64 x.n).wf = true) len (fun i hi => by
      obtain ⟨ys, n, hD, _, hyl, hgg⟩ := hg i (by simp at hmm; omega)
      obtain ⟨u0, z0, a0, y0, t0⟩ := hgg 0 _ rfl
      obtain ⟨u1, z1, a1, y1, t1⟩ := hgg 1 _ rfl
      obtain ⟨u2, z2, a2, y2, t2⟩ := hgg 2 _ rfl
      obtain ⟨u3, z3, a3, y3, t3⟩ := hgg 3 _ rfl
      obtain ⟨u4, z4, a4, y4, t4⟩ := hgg 4 _ rfl
      obtain ⟨k, e0, _, wf0⟩ := DataW.trod_int Try.underlying3 t0
      obtain rfl : u0 = .int .i64 k := by simpa using e0
      obtain ⟨s1, e1, _, w1⟩ := DataW.trod_string Try.underlying9 t1
      obtain rfl : u1 = .string s1 := by simpa using e1
      obtain ⟨s2, e2, _, w2⟩ := DataW.trod_string Try.underlying9 t2
      obtain rfl : u2 = .string s2 := by simpa using e2
      obtain ⟨q, e4, _, wf4⟩ := DataW.trod_int Try.underlying3 t4
      obtain rfl : u4 = .int .i64 q := by simpa using e4
      have key : ∀ (A : Option Addr) (ln cp : Nat), u3 = .slice A ln cp → ∃ x : OpA, (W.cell? (a.add (i * 5 + 0)) = some (.int .i64 x.k) ∧ W.cell? (a.add (i * 5 + 1)) = some (.string x.a) ∧ W.cell? (a.add (i * 5 + 2)) = some (.string x.b) ∧ W.cell? (a.add (i * 5 + 3)) = some (.slice x.A x.l.length x.c) ∧ W.cell? (a.add (i * 5 + 4)) = some (.int .i64 x.n)) ∧
        (Far W W.heap.size x.A x.l ∧ x.l.length ≤ x.c ∧ x.c ≤ maxLen) ∧ x.a.size ≤ maxLen ∧ x.b.size ≤ maxLen ∧ (Lit.int .i64 x.k).wf = true ∧ (Lit.int .i64 x.n).wf = true := by
        intro A ln cp hu
        subst hu
        obtain ⟨b, hb, hr, hc, hcm, hd⟩ := bytes_in (d := z3.1) (ps := z3.2) ⟨n, t3⟩
        subst hb
        exact ⟨⟨k, s1, s2, b, A, cp, q⟩, ⟨a0, a1, a2, a3, a4⟩, ⟨Far.of_rd hr (Nat.le_refl _), hc, hcm⟩, w1, w2, wf0, wf4⟩
      rcases open_ints Try.underlying23 Try.underlying5 (by kernel_rfl) t3 with ⟨hcs, _⟩ | ⟨x, l1, c1, zs, hcs, _⟩
      · exact key none 0 0 (by simpa using hcs)
      · exact key (some x) l1 c1 (by simpa using hcs))
    have hd : d = .slice ((List.range len).map D) ((List.range (m - len)).map fun j => D (len + j)) := (Prod.mk.inj hx).1
    refine ⟨l, hll, ?_, fun x hx => ?_, .inr ⟨_, _, hd, by simp⟩⟩
    · refine rd_of_cells (by omega) (by rw [oc_length, hll]) fun j u hu => ?_
      have hj := (List.getElem?_eq_some_iff.1 hu).1
      rw [oc_length] at hj
      have hk : j / 5 < l.length := by omega
      have hat := oc_at (List.getElem?_eq_getElem hk) (j % 5) (by omega)
      obtain ⟨c0, c1, c2, c3, c4⟩ := (hle (j / 5) _ (List.getElem?_eq_getElem hk)).1
      have e : j = j / 5 * 5 + j % 5 := by omega
      rw [e] at hu ⊢
      rw [hat] at hu
      have h5 : j % 5 = 0 ∨ j % 5 = 1 ∨ j % 5 = 2 ∨ j % 5 = 3 ∨ j % 5 = 4 := by omega
      rcases h5 with h5 | h5 | h5 | h5 | h5 <;> rw [h5] at hu ⊢ <;> rw [← hu]
      · exact c0
      · exact c1
      · exact c2
      · exact c3
      · exact c4
    · obtain ⟨i, hi⟩ := List.getElem?_of_mem hx
      exact (hle i x hi).2
end
section
variable {H : Type} {enc : TypeId × Value → H} {P : Program} {w : World} {base : Nat} {spare : Nat → Bool} {held : Bool}
theorem open_agg5 {r : Reach} {b0 : Nat} {t : TypeId} {f0 f1 f2 f3 f4 : Field} {v : Value} {d : DataW H} {p : List MemPlace} (hs : P.underlying t = some (.struct #[f0, f1, f2, f3, f4])) (hone : oneCellFields P #[f0, f1, f2, f3, f4] = true) (hC : P.cellsOf t = 5)
    (hv : Value.okWide P w r b0 t v) (h : DataW.Trod enc P w base spare held t v d p) :
    ∃ (v0 v1 v2 v3 v4 : Value) (y0 y1 y2 y3 y4 : DataW H × List MemPlace) (n : Nat), v = .agg #[v0, v1, v2, v3, v4] ∧ d = .agg [y0.1, y1.1, y2.1, y3.1, y4.1] ∧
      DataW.trod enc P w base spare held n f0.type [v0] = some y0 ∧ DataW.trod enc P w base spare held n f1.type [v1] = some y1 ∧ DataW.trod enc P w base spare held n f2.type [v2] = some y2 ∧ DataW.trod enc P w base spare held n f3.type [v3] = some y3 ∧ DataW.trod enc P w base spare held n f4.type [v4] = some y4 := by
  obtain ⟨cs, rfl, hsz⟩ := okWide_struct hs hv
  obtain ⟨l⟩ := cs
  match l, hsz.trans hC with
  | [c0, c1, c2, c3, c4], _ =>
    obtain ⟨fuel, hf⟩ := h
    obtain ⟨xs, n, _, hx, _, hlen, hg⟩ := DataW.trod_struct hs hf
    obtain ⟨o0, k0⟩ := hone_of hone 0 f0 rfl
    obtain ⟨o1, k1⟩ := hone_of hone 1 f1 rfl
    obtain ⟨o2, k2⟩ := hone_of hone 2 f2 rfl
    obtain ⟨o3, k3⟩ := hone_of hone 3 f3 rfl
    obtain ⟨o4, k4⟩ := hone_of hone 4 f4 rfl
    match xs, hlen with
    | [y0, y1, y2, y3, y4], _ =>
      simp only [Prod.mk.injEq] at hx
      exact ⟨c0, c1, c2, c3, c4, y0, y1, y2, y3, y4, n, rfl, by simpa using hx.1, by simpa [Value.cells, o0, k0] using hg 0 f0 rfl, by simpa [Value.cells, o1, k1] using hg 1 f1 rfl, by simpa [Value.cells, o2, k2] using hg 2 f2 rfl, by simpa [Value.cells, o3, k3] using hg 3 f3 rfl, by simpa [Value.cells, o4, k4] using hg 4 f4 rfl⟩
end
section
variable {H : Type} {enc : TypeId × Value → H} {W : World}
set_option maxRecDepth 100000 in
/-- One command as an argument. -/
theorem op_in {r : Reach} {b0 : Nat} {v : Value} {d : DataW H} {ps : List MemPlace} (hv : Value.okWide Try.prog W r b0 56 v) (h : DataW.Trod enc Try.prog W 0 (fun _ => true) true 56 v d ps) :
    ∃ x : OpA, v = .agg #[.int .i64 x.k, .string x.a, .string x.b, .slice x.A x.l.length x.c, .int .i64 x.n] ∧ Ops8 W W.heap.size [x] := by
  obtain ⟨v0, v1, v2, v3, v4, y0, y1, y2, y3, y4, n, rfl, rfl, t0, t1, t2, t3, t4⟩ := open_agg5 Try.underlying56 (by kernel_rfl) (by kernel_rfl) hv h
  obtain ⟨k, e0, _, wf0⟩ := DataW.trod_int Try.underlying3 t0
  obtain rfl : v0 = .int .i64 k := by simpa using e0
  obtain ⟨s1, e1, _, w1⟩ := DataW.trod_string Try.underlying9 t1
  obtain rfl : v1 = .string s1 := by simpa using e1
  obtain ⟨s2, e2, _, w2⟩ := DataW.trod_string Try.underlying9 t2
  obtain rfl : v2 = .string s2 := by simpa using e2
  obtain ⟨q, e4, _, wf4⟩ := DataW.trod_int Try.underlying3 t4
  obtain rfl : v4 = .int .i64 q := by simpa using e4
  have key : ∀ (A : Option Addr) (ln cp : Nat), v3 = .slice A ln cp → ∃ x : OpA, Value.agg #[.int .i64 k, .string s1, .string s2, v3, .int .i64 q] = .agg #[.int .i64 x.k, .string x.a, .string x.b, .slice x.A x.l.length x.c, .int .i64 x.n] ∧ Ops8 W W.heap.size [x] := by
    intro A ln cp hu
    subst hu
    obtain ⟨b, hb, hr, hc, hcm, hd⟩ := bytes_in (d := y3.1) (ps := y3.2) ⟨n, t3⟩
    subst hb
    refine ⟨⟨k, s1, s2, b, A, cp, q⟩, rfl, fun x hx => ?_⟩
    obtain rfl := List.mem_singleton.1 hx
    exact ⟨⟨Far.of_rd hr (Nat.le_refl _), hc, hcm⟩, w1, w2, wf0, wf4⟩
  rcases open_ints Try.underlying23 Try.underlying5 (by kernel_rfl) t3 with ⟨hcs, _⟩ | ⟨x, l1, c1, zs, hcs, _⟩
  · exact key none 0 0 (by simpa using hcs)
  · exact key (some x) l1 c1 (by simpa using hcs)
end
/-- The form's reach, of a script. -/
theorem reach_ops {H : Type} {ts : List TypeId} {ds : List (DataW H)} {j : Nat} {d : DataW H} {len : Nat} (h : (DataW.weightsEach Try.prog ts ds).all (· ≤ reachBytes) = true) (ht : ts[j]? = some 52) (hd : ds[j]? = some d)
    (hl : d = .nil ∧ len = 0 ∨ ∃ es sp, d = .slice es sp ∧ es.length = len) : len ≤ 140737488351232 := by
  rcases hl with ⟨_, rfl⟩ | ⟨es, sp, rfl, rfl⟩
  · omega
  · have h1 := sized_slice h ht hd Try.underlying52
    have h2 : Try.prog.bytesOf 56 = 72 := by kernel_rfl
    rw [h2] at h1
    have h3 : reachBytes = 140737488351232 := by decide
    omega
end Go.Proofs.Ytogjlfpoedeooaa
