/- How an argument of files reads: a list of names and bytes, and what the second form's bound says of them. Conditions: none. -/
import Derived.Test.YtegolgkagdlocaaFrame
import Derived.Test.YtegolgkagdlocaaFil
import Derived.Deep.Slices
import Derived.Deep.Fields
import Derived.ChangeSame
namespace Go.Proofs.Ytegolgkagdlocaa
open Go.ChangeShapes Go.WideShapes Go.RowKit Go.Deep Go.Dol
set_option linter.unusedVariables false

section
variable {H : Type} {enc : TypeId × Value → H} {P : Program} {w : World} {base : Nat} {spare : Nat → Bool} {held : Bool}
theorem open_slice_fields {t e : TypeId} {fs : Array Field} {fuel : Nat} {cs : List Value} {x : DataW H × List MemPlace} (ht : P.underlying t = some (.slice e)) (he : P.underlying e = some (.struct fs))
    (hone : oneCellFields P fs = true) (hC : P.cellsOf e = fs.size) (h : DataW.trod enc P w base spare held fuel t cs = some x) :
    (cs = [.slice none 0 0] ∧ x = (.nil, [])) ∨
    ∃ (a : Addr) (len cap m : Nat) (D : Nat → DataW H) (Pl : Nat → List MemPlace), cs = [.slice (some a) len cap] ∧ base ≤ a.block ∧ len ≤ cap ∧ cap ≤ maxLen ∧ m = (if spare a.block then cap else len) ∧
      x = (.slice ((List.range len).map D) ((List.range (m - len)).map fun j => D (len + j)), MemPlace.row a (m * fs.size) ++ (List.range m).flatMap Pl) ∧
      ∀ i, i < m → ∃ (ys : List (DataW H × List MemPlace)) (n : Nat), D i = .agg (ys.map (·.1)) ∧ Pl i = ys.flatMap (·.2) ∧ ys.length = fs.size ∧
        ∀ (j : Nat) (f : Field), fs[j]? = some f → ∃ (v : Value) (y : DataW H × List MemPlace), w.cell? (a.add (i * fs.size + j)) = some v ∧ ys[j]? = some y ∧ DataW.trod enc P w base spare held n f.type [v] = some y := by
  rcases open_slice ht h with h0 | ⟨a, len, cap, m, n, D, Pl, hcs, hb, hl, hm, hmm, hx, hi⟩
  · exact .inl h0
  · refine .inr ⟨a, len, cap, m, D, Pl, hcs, hb, hl, hm, hmm, by rw [hC] at hx; exact hx, fun i him => ?_⟩
    obtain ⟨cs', hc, ht'⟩ := hi i him
    rw [hC] at hc
    obtain ⟨ys, n', hn', hy, hlen, hyl, hf⟩ := DataW.trod_struct he ht'
    obtain ⟨_, hcl, hat⟩ := World.cells?_some hc
    simp only [Prod.mk.injEq] at hy
    refine ⟨ys, n', hy.1, hy.2, hyl, fun j f hj => ?_⟩
    obtain ⟨ho, hk⟩ := hone_of hone j f hj
    have hjl : j < fs.size := (Array.getElem?_eq_some_iff.1 hj).1
    have hcell := hat j hjl
    have hv : cs'[j]? = some (cs'[j]'(by omega)) := List.getElem?_eq_getElem (by omega)
    have h1 := hf j f hj
    rw [ho, hk] at h1
    have hone' : (cs'.drop j).take 1 = [cs'[j]'(by omega)] := by
      rw [List.drop_eq_getElem_cons (by omega)]
      rfl
    rw [hone'] at h1
    have hys : ys[j]? = some (ys[j]'(by omega)) := List.getElem?_eq_getElem (by omega)
    refine ⟨_, _, ?_, hys, h1.trans hys⟩
    rw [← Go.Deep.add_add, hcell, hv]
end

section
variable {H : Type} {enc : TypeId × Value → H} {W : World}
theorem rd_of_cells {a : Addr} {n size : Nat} {xs : List Value} (hs : 0 < size) (hl : xs.length = n * size) (h : ∀ j u, xs[j]? = some u → W.cell? (a.add j) = some u) : Rd W W.heap.size size (some a) n xs := by
  refine ⟨hl, fun hn => ?_⟩
  have hp : 0 < xs.length := by rw [hl]; exact Nat.mul_pos hn hs
  have h0 := h 0 _ (List.getElem?_eq_getElem hp)
  obtain ⟨b, off, spot⟩ := a
  have hspot : spot = none := by simpa [Addr.add] using World.cell?_spot h0
  subst hspot
  have hc : ∀ j u, xs[j]? = some u → W.cell? ⟨b, off + j, none⟩ = some u := fun j u hu => by rw [← Go.WideShapes.add_plain]; exact h j u hu
  exact ⟨b, off, rfl, World.block_lt_of_cell? W _ (hc 0 _ (List.getElem?_eq_getElem hp)), hc⟩
theorem list_of {α : Type} {p : Nat → α → Prop} : ∀ n, (∀ i, i < n → ∃ e, p i e) → ∃ l : List α, l.length = n ∧ ∀ i e, l[i]? = some e → p i e
  | 0, _ => ⟨[], rfl, fun i e h => by simp at h⟩
  | n + 1, h => by
    obtain ⟨l, hl, hp⟩ := list_of n fun i hi => h i (by omega)
    obtain ⟨e, he⟩ := h n (by omega)
    refine ⟨l ++ [e], by simp [hl], fun i u hu => ?_⟩
    by_cases hi : i < l.length
    · rw [List.getElem?_append_left hi] at hu
      exact hp i u hu
    · rw [List.getElem?_append_right (by omega)] at hu
      have h1 := (List.getElem?_eq_some_iff.1 hu).1
      simp only [List.length_singleton] at h1
      have h2 : i = n := by omega
      subst h2
      rw [hl, Nat.sub_self] at hu
      simp only [List.getElem?_cons_zero, Option.some.injEq] at hu
      rw [← hu]
      exact he
/-- What files cost, by the bulk of what was read. -/
theorem costs_bulk (l : List FilA) : ∀ D : Nat → DataW H, (∀ i x, l[i]? = some x → costF x.f ≤ 16 * (Rows.uptoBulk (D i) : Nat)) → costs (l.map FilA.f) ≤ 16 * (Rows.uptoBulkAll ((List.range l.length).map D) : Nat) := by
  induction l with
  | nil => intro D _; simp [costs, Rows.uptoBulkAll]
  | cons x r ih =>
    intro D h
    have h0 := h 0 x rfl
    have h1 := ih (fun i => D (i + 1)) fun i y hy => h (i + 1) y (by simpa using hy)
    rw [List.length_cons, List.range_succ_eq_map]
    simp only [List.map_cons, List.map_map, costs, Rows.uptoBulkAll]
    have e : (D ∘ Nat.succ) = fun i => D (i + 1) := rfl
    rw [e]
    omega
/-- What a file was read from. -/
def FilePart (x : FilA) (dd : DataW H) : Prop := ∃ dz, dd = .agg [.lit (.string x.n.data.toList), dz] ∧ (dz = .nil ∧ x.b.length = 0 ∨ ∃ es sp, dz = .slice es sp ∧ es.length = x.b.length)
set_option maxRecDepth 100000 in
/-- An argument of files. -/
theorem files_in2 {v : Value} {d : DataW H} {ps : List MemPlace} (A : Option Addr) (len cap : Nat) (hv : v = .slice A len cap) (h : DataW.Trod enc Try.prog W 0 (fun _ => true) true 22 v d ps) :
    ∃ l : List FilA, l.length = len ∧ Rd W W.heap.size 2 A len (fc l) ∧ Fls8 W W.heap.size l ∧ costs (l.map FilA.f) ≤ 16 * (Rows.uptoBulk d : Nat) ∧ (d = .nil ∧ len = 0 ∨ ∃ es sp, d = .slice es sp ∧ es.length = len) ∧ (∀ x ∈ l, ∃ es sp dd, d = .slice es sp ∧ dd ∈ es ∧ FilePart x dd) := by
  subst hv
  obtain ⟨fuel, hf⟩ := h
  rcases open_slice_fields Try.underlying22 Try.underlying47 (by kernel_rfl) (by kernel_rfl) hf with ⟨hcs, hx⟩ | ⟨a, len', cap', m, D, Pl, hcs, _, hl, hm, hmm, hx, hg⟩
  · simp [Value.cells] at hcs
    obtain ⟨rfl, rfl, rfl⟩ := hcs
    exact ⟨[], rfl, Rd.nil, fun x hx => (List.not_mem_nil hx).elim, by show (0 : Int) ≤ _; omega, .inl ⟨(Prod.mk.inj hx).1, rfl⟩, fun x hx => (List.not_mem_nil hx).elim⟩
  · simp [Value.cells] at hcs
    obtain ⟨rfl, rfl, rfl⟩ := hcs
    obtain ⟨l, hll, hle⟩ := list_of (p := fun i (x : FilA) => W.cell? (a.add (i * 2 + 0)) = some (.string x.n) ∧ W.cell? (a.add (i * 2 + 1)) = some (.slice x.A x.b.length x.c) ∧ (Far W W.heap.size x.A x.b ∧ x.b.length ≤ x.c ∧ x.c ≤ maxLen) ∧ costF x.f ≤ 16 * (Rows.uptoBulk (D i) : Nat) ∧ FilePart x (D i)) len (fun i hi => by
      obtain ⟨ys, n, hD, _, hyl, hgg⟩ := hg i (by simp at hmm; omega)
      obtain ⟨u0, z0, a0, y0, t0⟩ := hgg 0 _ rfl
      obtain ⟨u1, z1, a1, y1, t1⟩ := hgg 1 _ rfl
      obtain ⟨s0, e0, e0', _⟩ := DataW.trod_string Try.underlying9 t0
      obtain rfl : u0 = .string s0 := by simpa using e0
      have hys : ys = [z0, z1] := by
        match ys, hyl with
        | [p, q], _ =>
          have e1 : p = z0 := by simpa using y0
          have e2 : q = z1 := by simpa using y1
          rw [e1, e2]
      have hz0 : z0.1 = .lit (.string s0.data.toList) := by rw [e0']
      have hs0 : s0.data.toList.length = s0.size := by rw [Array.length_toList]; rfl
      have hDi : Rows.uptoBulk (D i) = s0.size + 1 + (Rows.uptoBulk z1.1 + 0) + 1 := by
        rw [hD, hys]
        simp only [List.map_cons, List.map_nil, Rows.uptoBulk, Rows.uptoBulkAll, hz0, hs0]
      have key : ∀ (A : Option Addr) (ln cp : Nat), u1 = .slice A ln cp → ∃ x : FilA, W.cell? (a.add (i * 2 + 0)) = some (.string x.n) ∧ W.cell? (a.add (i * 2 + 1)) = some (.slice x.A x.b.length x.c) ∧ (Far W W.heap.size x.A x.b ∧ x.b.length ≤ x.c ∧ x.c ≤ maxLen) ∧ costF x.f ≤ 16 * (Rows.uptoBulk (D i) : Nat) ∧ FilePart x (D i) := by
        intro A ln cp hu
        subst hu
        obtain ⟨b, hb, hr, hc, hcm, hd⟩ := bytes_in (d := z1.1) (ps := z1.2) ⟨n, t1⟩
        subst hb
        refine ⟨⟨s0, b, A, cp⟩, a0, a1, ⟨Far.of_rd hr (Nat.le_refl _), hc, hcm⟩, ?_, ⟨z1.1, by rw [hD, hys, List.map_cons, List.map_cons, List.map_nil, hz0], hd⟩⟩
        have hbl : b.length + 1 ≤ Rows.uptoBulk z1.1 := by
          rcases hd with ⟨e, h0⟩ | ⟨es, sp, e, h0⟩
          · rw [e, h0]; simp [Rows.uptoBulk]
          · have := bulk_length es
            rw [e]
            simp only [Rows.uptoBulk]
            omega
        show 16 + (s0.size : Int) + (b.length : Int) ≤ _
        rw [hDi]
        omega
      rcases open_ints Try.underlying23 Try.underlying5 (by kernel_rfl) t1 with ⟨hcs, _⟩ | ⟨x, l1, c1, zs, hcs, _⟩
      · exact key none 0 0 (by simpa using hcs)
      · exact key (some x) l1 c1 (by simpa using hcs))
    have hd : d = .slice ((List.range len).map D) ((List.range (m - len)).map fun j => D (len + j)) := (Prod.mk.inj hx).1
    refine ⟨l, hll, ?_, fun x hx => ?_, ?_, .inr ⟨_, _, hd, by simp⟩, fun x hx => by
      obtain ⟨i, hi⟩ := List.getElem?_of_mem hx
      have hil := (List.getElem?_eq_some_iff.1 hi).1
      exact ⟨_, _, D i, hd, List.mem_map.2 ⟨i, List.mem_range.2 (by omega), rfl⟩, (hle i x hi).2.2.2.2⟩⟩
    · refine rd_of_cells (by omega) (by rw [fc_length, hll]) fun j u hu => ?_
      have hj := (List.getElem?_eq_some_iff.1 hu).1
      rw [fc_length] at hj
      have hk : j / 2 < l.length := by omega
      obtain ⟨g0, g1⟩ := fc_get (List.getElem?_eq_getElem hk)
      obtain ⟨c0, c1, _⟩ := hle (j / 2) _ (List.getElem?_eq_getElem hk)
      have h3 : j % 2 = 0 ∨ j % 2 = 1 := by omega
      rcases h3 with h3 | h3
      · rw [show j = j / 2 * 2 by omega] at hu ⊢
        rw [g0] at hu
        rw [← hu]
        exact c0
      · rw [show j = j / 2 * 2 + 1 by omega] at hu ⊢
        rw [g1] at hu
        rw [← hu]
        exact c1
    · obtain ⟨i, hi⟩ := List.getElem?_of_mem hx
      exact (hle i x hi).2.2.1
    · have h1 := costs_bulk l D fun i x hi => (hle i x hi).2.2.2.1
      rw [hll] at h1
      rw [hd]
      simp only [Rows.uptoBulk]
      omega
theorem files_in {v : Value} {d : DataW H} {ps : List MemPlace} (A : Option Addr) (len cap : Nat) (hv : v = .slice A len cap) (h : DataW.Trod enc Try.prog W 0 (fun _ => true) true 22 v d ps) :
    ∃ l : List FilA, l.length = len ∧ Rd W W.heap.size 2 A len (fc l) ∧ Fls8 W W.heap.size l ∧ costs (l.map FilA.f) ≤ 16 * (Rows.uptoBulk d : Nat) ∧ (d = .nil ∧ len = 0 ∨ ∃ es sp, d = .slice es sp ∧ es.length = len) := by
  obtain ⟨l, h1, h2, h3, h4, h5, _⟩ := files_in2 A len cap hv h
  exact ⟨l, h1, h2, h3, h4, h5⟩
end
theorem weightsAll_mem {H : Type} {P : Program} {e : TypeId} : ∀ {l : List (DataW H)} {d : DataW H}, d ∈ l → ∀ n ∈ d.weights P e, n ∈ DataW.weightsAll P e l
  | [], _, hd, _, _ => (List.not_mem_nil hd).elim
  | x :: r, d, hd, n, hn => by
    simp only [DataW.weightsAll, List.mem_append]
    rcases List.mem_cons.1 hd with rfl | h
    · exact .inl hn
    · exact .inr (weightsAll_mem h n hn)
/-- The form's reach, of files. -/
theorem reach_files {H : Type} {ts : List TypeId} {ds : List (DataW H)} {j : Nat} {d : DataW H} {len : Nat} {l : List FilA} (h : (DataW.weightsEach Try.prog ts ds).all (· ≤ reachBytes) = true) (ht : ts[j]? = some 22) (hd : ds[j]? = some d)
    (hl : d = .nil ∧ len = 0 ∨ ∃ es sp, d = .slice es sp ∧ es.length = len) (hp : ∀ x ∈ l, ∃ es sp dd, d = .slice es sp ∧ dd ∈ es ∧ FilePart x dd) : len ≤ 3518437208780 ∧ ∀ x ∈ l, x.n.size ≤ 140737488351232 ∧ x.b.length ≤ 140737488351232 := by
  have h3 : reachBytes = 140737488351232 := by decide
  refine ⟨?_, fun x hx => ?_⟩
  · rcases hl with ⟨_, rfl⟩ | ⟨es, sp, rfl, rfl⟩
    · omega
    · have h1 := sized_slice h ht hd Try.underlying22
      have h2 : Try.prog.bytesOf 47 = 40 := by kernel_rfl
      rw [h2] at h1
      omega
  · obtain ⟨es, sp, dd, rfl, hm, dz, rfl, hz⟩ := hp x hx
    have hall : ∀ n ∈ DataW.weights Try.prog 47 (.agg [.lit (.string x.n.data.toList), dz] : DataW H), n ≤ reachBytes := by
      intro n hn
      have h1 := List.all_eq_true.1 h n (DataW.weights_mem_each ht hd n (by
        simp only [DataW.weights, Try.underlying22, List.mem_cons, List.mem_append]
        exact .inr (.inl (weightsAll_mem hm n hn))))
      simpa using h1
    have hn : x.n.data.toList.length = x.n.size := by rw [Array.length_toList]; rfl
    constructor
    · have h1 := hall x.n.data.toList.length (by simp [DataW.weights, Try.underlying47, DataW.weightsEach])
      omega
    · rcases hz with ⟨_, h0⟩ | ⟨es', sp', rfl, h0⟩
      · omega
      · have h1 := hall ((es'.length + sp'.length) * Try.prog.bytesOf 5) (by simp [DataW.weights, Try.underlying47, Try.underlying23, DataW.weightsEach])
        have h2 : Try.prog.bytesOf 5 = 1 := by kernel_rfl
        rw [h2] at h1
        omega
/-- The second form's bound, of files. -/
theorem upto_costs {H : Type} {l : List (DataW H)} {d : DataW H} {c : Int} (hk : Rows.uptoSmall H l = true) (hm : d ∈ l) (h : c ≤ 16 * (Rows.uptoBulk d : Nat)) : c ≤ 16777216 := by
  have h1 := bulk_bound hk
  have h2 := bulk_part hm
  omega
end Go.Proofs.Ytegolgkagdlocaa
