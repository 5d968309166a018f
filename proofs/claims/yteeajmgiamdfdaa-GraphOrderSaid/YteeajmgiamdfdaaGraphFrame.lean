/- How an argument of nodes, and one of texts, reads: lists, and what the second form's bound says of them. Conditions: none. -/
import Derived.Test.YteeajmgiamdfdaaFrame
import Derived.Test.YteeajmgiamdfdaaClo
import Derived.Deep.Slices
import Derived.Deep.Fields
import Derived.ChangeSame
import Derived.SliceStrings
namespace Go.Dol
/-- How many parents there are, and nodes. -/
def totN : List Nd → Nat
  | [] => 0
  | f :: r => f.2.length + 1 + totN r
theorem room_tot (l : List Nd) : ∀ seen met, room l seen met ≤ totN l := by
  induction l with
  | nil => intro _ _; exact Nat.le_refl _
  | cons f r ih =>
    intro seen met
    have := ih (f.1 :: seen) met
    unfold room totN
    split <;> omega
end Go.Dol
namespace Go.Proofs.Yteeajmgiamdfdaa
open Go.ChangeShapes Go.WideShapes Go.RowKit Go.Deep Go.Dol
set_option linter.unusedVariables false
section
variable {H : Type} {enc : TypeId × Value → H} {P : Program} {w : World} {base : Nat} {spare : Nat → Bool} {held : Bool}
theorem open_slice_fields {t e : TypeId} {fs : Array Field} {fuel : Nat} {cs : List Value} {x : DataW H × List MemPlace} (ht : P.underlying t = some (.slice e)) (he : P.underlying e = some (.struct fs))
    (hone : oneCellFields P fs = true) (hC : P.cellsOf e = fs.size) (h : DataW.trod enc P w base spare held fuel t cs = some x) :
    (cs = [.slice none 0 0] ∧ x = (.nil, [])) ∨
    ∃ (a : Addr) (len cap m : Nat) (D : Nat → DataW H) (Pl : Nat → List MemPlace), cs = [.slice (some a) len cap] ∧ base ≤ a.block ∧ len ≤ cap ∧ cap ≤ maxLen ∧ m = (if spare a.block then cap else len) ∧
      x = (.slice ((List.range len).map D) ((List.range (m - len)).map fun j => D (len + j)), MemPlace.row a (m * fs.size) ++ (List.range m).flatMap Pl) ∧
      ∀ i, i < m → ∃ (ys : List (DataW H × List MemPlace)) (n : Nat), D i = .agg (ys.map (·.1)) ∧ Pl i = ys.flatMap (·.2) ∧ ys.length = fs.size ∧
        ∀ (j : Nat) (f : Field), fs[j]? = some f → ∃ (v : Value) (y : DataW H × List MemPlace), w.cell? (a.add (i * fs.size + j)) = some v ∧ ys[j]? = some y ∧ DataW.trod enc P w base spare held n f.type [v] = some y := by
  rcases open_slice ht h with h0 | ⟨a, len, cap, m, n, D, Pl, hcs, hb, hl, hm, hmm, hx, hi⟩
  · exact .inl h0
  · refine .inr ⟨a, len, cap, m, D, Pl, hcs, hb, hl, hm, hmm, by rw [hC] at hx; exact hx, fun i him => ?_⟩
    obtain ⟨cs', hc, ht'⟩ := hi i him
    rw [hC] at hc
    obtain ⟨ys, n', hn', hy, hlen, hyl, hf⟩ := DataW.trod_struct he ht'
    obtain ⟨_, hcl, hat⟩ := World.cells?_some hc
    simp only [Prod.mk.injEq] at hy
    refine ⟨ys, n', hy.1, hy.2, hyl, fun j f hj => ?_⟩
    obtain ⟨ho, hk⟩ := hone_of hone j f hj
    have hjl : j < fs.size := (Array.getElem?_eq_some_iff.1 hj).1
    have hcell := hat j hjl
    have hv : cs'[j]? = some (cs'[j]'(by omega)) := List.getElem?_eq_getElem (by omega)
    have h1 := hf j f hj
    rw [ho, hk] at h1
    have hone' : (cs'.drop j).take 1 = [cs'[j]'(by omega)] := by
      rw [List.drop_eq_getElem_cons (by omega)]
      rfl
    rw [hone'] at h1
    have hys : ys[j]? = some (ys[j]'(by omega)) := List.getElem?_eq_getElem (by omega)
    refine ⟨_, _, ?_, hys, h1.trans hys⟩
    rw [← Go.Deep.add_add, hcell, hv]
end
section
variable {H : Type} {enc : TypeId × Value → H} {W : World}
theorem rd_of_cells {a : Addr} {n size : Nat} {xs : List Value} (hs : 0 < size) (hl : xs.length = n * size) (h : ∀ j u, xs[j]? = some u → W.cell? (a.add j) = some u) : Rd W W.heap.size size (some a) n xs := by
  refine ⟨hl, fun hn => ?_⟩
  have hp : 0 < xs.length := by rw [hl]; exact Nat.mul_pos hn hs
  have h0 := h 0 _ (List.getElem?_eq_getElem hp)
  obtain ⟨b, off, spot⟩ := a
  have hspot : spot = none := by simpa [Addr.add] using World.cell?_spot h0
  subst hspot
  have hc : ∀ j u, xs[j]? = some u → W.cell? ⟨b, off + j, none⟩ = some u := fun j u hu => by rw [← Go.WideShapes.add_plain]; exact h j u hu
  exact ⟨b, off, rfl, World.block_lt_of_cell? W _ (hc 0 _ (List.getElem?_eq_getElem hp)), hc⟩
theorem list_of {α : Type} {p : Nat → α → Prop} : ∀ n, (∀ i, i < n → ∃ e, p i e) → ∃ l : List α, l.length = n ∧ ∀ i e, l[i]? = some e → p i e
  | 0, _ => ⟨[], rfl, fun i e h => by simp at h⟩
  | n + 1, h => by
    obtain ⟨l, hl, hp⟩ := list_of n fun i hi => h i (by omega)
    obtain ⟨e, he⟩ := h n (by omega)
    refine ⟨l ++ [e], by simp [hl], fun i u hu => ?_⟩
    by_cases hi : i < l.length
    · rw [List.getElem?_append_left hi] at hu
      exact hp i u hu
    · rw [List.getElem?_append_right (by omega)] at hu
      have h1 := (List.getElem?_eq_some_iff.1 hu).1
      simp only [List.length_singleton] at h1
      have h2 : i = n := by omega
      subst h2
      rw [hl, Nat.sub_self] at hu
      simp only [List.getElem?_cons_zero, Option.some.injEq] at hu
      rw [← hu]
      exact he
/-- A field of texts. -/
theorem texts_f {fuel : Nat} {v : Value} {x : DataW H × List MemPlace} (h : DataW.trod enc Try.prog W 0 (fun _ => true) true fuel 26 [v] = some x) :
    ∃ (A : Option Addr) (l : List ByteArray) (cap : Nat), v = .slice A l.length cap ∧ Rd W W.heap.size 1 A l.length (pc l) ∧ (∀ p ∈ l, p.size ≤ maxLen) ∧ l.length ≤ cap ∧ cap ≤ maxLen ∧ (x.1 = .nil ∧ l.length = 0 ∨ ∃ es sp, x.1 = .slice es sp ∧ es.length = l.length) := by
  rcases open_strings Try.underlying26 Try.underlying9 (by kernel_rfl) h with ⟨hcs, hx⟩ | ⟨a, len, cap, ss, hcs, _, hl, hm, hz, hx, hcell, hsz⟩
  · obtain rfl : v = .slice none 0 0 := by simpa using hcs
    exact ⟨none, [], 0, rfl, Rd.nil, (fun p hp => by cases hp), Nat.le_refl _, by unfold maxLen; omega, .inl ⟨by rw [hx], rfl⟩⟩
  · obtain rfl : v = .slice (some a) len cap := by simpa using hcs
    have hsl : ss.length = cap := by simpa using hz
    have hll : (ss.take len).length = len := by rw [List.length_take]; omega
    refine ⟨some a, ss.take len, cap, by rw [hll], ?_, fun p hp => hsz p (List.mem_of_mem_take hp), by omega, hm, .inr ⟨_, _, by rw [hx], by simp [strs]⟩⟩
    refine rd_of_cells (by omega) (by rw [pc_length]; omega) fun j u hu => ?_
    have hj := (List.getElem?_eq_some_iff.1 hu).1
    rw [pc_length, hll] at hj
    rw [pc_get (by omega)] at hu
    rw [hcell j (by omega), ← hu, List.getElem_take, List.getD, List.getElem?_eq_getElem (by omega)]
    rfl
/-- An argument of texts. -/
theorem texts_in {d : DataW H} {ps : List MemPlace} (A : Option Addr) (len cap : Nat) (h : DataW.Trod enc Try.prog W 0 (fun _ => true) true 26 (.slice A len cap) d ps) :
    ∃ l : List ByteArray, l.length = len ∧ Rd W W.heap.size 1 A len (pc l) ∧ (∀ p ∈ l, p.size ≤ maxLen) ∧ (d = .nil ∧ len = 0 ∨ ∃ es sp, d = .slice es sp ∧ es.length = len) := by
  obtain ⟨fuel, hf⟩ := h
  obtain ⟨A', l, cap', hv, hr, hz, _, _, hd⟩ := texts_f (v := .slice A len cap) hf
  injection hv with e1 e2 e3
  subst e1
  subst e2
  exact ⟨l, rfl, hr, hz, hd⟩
/-- What nodes cost, by the bulk of what was read. -/
theorem tot_bulk (l : List NdA) : ∀ D : Nat → DataW H, (∀ i x, l[i]? = some x → x.ps.length + 1 ≤ Rows.uptoBulk (D i)) → totN (l.map NdA.f) ≤ Rows.uptoBulkAll ((List.range l.length).map D) := by
  induction l with
  | nil => intro D _; simp [totN, Rows.uptoBulkAll]
  | cons x r ih =>
    intro D h
    have h0 := h 0 x rfl
    have h1 := ih (fun i => D (i + 1)) fun i y hy => h (i + 1) y (by simpa using hy)
    rw [List.length_cons, List.range_succ_eq_map]
    simp only [List.map_cons, List.map_map, totN, Rows.uptoBulkAll]
    have e : (D ∘ Nat.succ) = fun i => D (i + 1) := rfl
    rw [e]
    show x.ps.length + 1 + _ ≤ _
    omega
set_option maxRecDepth 100000 in
/-- An argument of nodes. -/
theorem nodes_in {d : DataW H} {ps : List MemPlace} (A : Option Addr) (len cap : Nat) (h : DataW.Trod enc Try.prog W 0 (fun _ => true) true 32 (.slice A len cap) d ps) :
    ∃ l : List NdA, l.length = len ∧ (len ≤ 1048576 → NdsOk W A l) ∧ totN (l.map NdA.f) ≤ Rows.uptoBulk d ∧ (d = .nil ∧ len = 0 ∨ ∃ es sp, d = .slice es sp ∧ es.length = len) := by
  obtain ⟨fuel, hf⟩ := h
  rcases open_slice_fields Try.underlying32 Try.underlying43 (by kernel_rfl) (by kernel_rfl) hf with ⟨hcs, hx⟩ | ⟨a, len', cap', m, D, Pl, hcs, _, hl, hm, hmm, hx, hg⟩
  · simp [Value.cells] at hcs
    obtain ⟨rfl, rfl, rfl⟩ := hcs
    exact ⟨[], rfl, fun _ => ⟨Rd.nil, (fun x hx => (List.not_mem_nil hx).elim), by simp, (fun x hx => (List.not_mem_nil hx).elim), fun x hx => (List.not_mem_nil hx).elim⟩, by simp [totN], .inl ⟨(Prod.mk.inj hx).1, rfl⟩⟩
  · simp [Value.cells] at hcs
    obtain ⟨rfl, rfl, rfl⟩ := hcs
    obtain ⟨l, hll, hle⟩ := list_of (p := fun i (x : NdA) => W.cell? (a.add (i * 2 + 0)) = some (.string x.n) ∧ W.cell? (a.add (i * 2 + 1)) = some (.slice x.A x.ps.length x.c) ∧ (Rd W W.heap.size 1 x.A x.ps.length (pc x.ps) ∧ x.ps.length ≤ x.c ∧ x.c ≤ maxLen) ∧ x.n.size ≤ maxLen ∧ (∀ y ∈ x.ps, y.size ≤ maxLen) ∧ x.ps.length + 1 ≤ Rows.uptoBulk (D i)) len (fun i hi => by
      obtain ⟨ys, n, hD, _, hyl, hgg⟩ := hg i (by simp at hmm; omega)
      obtain ⟨u0, z0, a0, y0, t0⟩ := hgg 0 _ rfl
      obtain ⟨u1, z1, a1, y1, t1⟩ := hgg 1 _ rfl
      obtain ⟨s0, e0, e0', hs0⟩ := DataW.trod_string Try.underlying9 t0
      obtain rfl : u0 = .string s0 := by simpa using e0
      obtain ⟨A1, l1, c1, rfl, hr1, hz1, hc1, hc2, hd1⟩ := texts_f t1
      have hys : ys = [z0, z1] := by
        match ys, hyl with
        | [p, q], _ =>
          have e1 : p = z0 := by simpa using y0
          have e2 : q = z1 := by simpa using y1
          rw [e1, e2]
      refine ⟨⟨s0, l1, A1, c1⟩, a0, a1, ⟨hr1, hc1, hc2⟩, hs0, hz1, ?_⟩
      rw [hD, hys]
      simp only [List.map_cons, List.map_nil, Rows.uptoBulk, Rows.uptoBulkAll]
      rcases hd1 with ⟨e, h0⟩ | ⟨es, sp, e, h0⟩
      · rw [h0]; omega
      · have := bulk_length es
        rw [e]
        simp only [Rows.uptoBulk]
        omega)
    have hd : d = .slice ((List.range len).map D) ((List.range (m - len)).map fun j => D (len + j)) := (Prod.mk.inj hx).1
    refine ⟨l, hll, fun hk => ⟨?_, ?_, by omega, ?_, ?_⟩, ?_, .inr ⟨_, _, hd, by simp⟩⟩
    · refine rd_of_cells (by omega) (by rw [nc_length]) fun j u hu => ?_
      have hj := (List.getElem?_eq_some_iff.1 hu).1
      rw [nc_length] at hj
      have hkk : j / 2 < l.length := by omega
      obtain ⟨g0, g1⟩ := nc_get (List.getElem?_eq_getElem hkk)
      obtain ⟨c0, c1, _⟩ := hle (j / 2) _ (List.getElem?_eq_getElem hkk)
      have h3 : j % 2 = 0 ∨ j % 2 = 1 := by omega
      rcases h3 with h3 | h3
      · rw [show j = j / 2 * 2 by omega] at hu ⊢
        rw [g0] at hu
        rw [← hu]
        exact c0
      · rw [show j = j / 2 * 2 + 1 by omega] at hu ⊢
        rw [g1] at hu
        rw [← hu]
        exact c1
    · intro x hx
      obtain ⟨i, hi⟩ := List.getElem?_of_mem hx
      exact (hle i x hi).2.2.1
    · intro x hx
      obtain ⟨i, hi⟩ := List.getElem?_of_mem hx
      exact (hle i x hi).2.2.2.1
    · intro x hx
      obtain ⟨i, hi⟩ := List.getElem?_of_mem hx
      exact (hle i x hi).2.2.2.2.1
    · have h1 := tot_bulk l D fun i x hi => (hle i x hi).2.2.2.2.2
      rw [hd]
      simp only [Rows.uptoBulk]
      rw [hll] at h1
      omega
/-- The second form's bound, of nodes. -/
theorem upto_room {l : List (DataW H)} {d : DataW H} {ns : List NdA} (hk : Rows.uptoSmall H l = true) (hm : d ∈ l) (h : totN (ns.map NdA.f) ≤ Rows.uptoBulk d) : room (ns.map NdA.f) [] [] ≤ 274877906944 := by
  have h1 := bulk_bound hk
  have h2 := bulk_part hm
  have h3 := room_tot (ns.map NdA.f) [] []
  omega
theorem upto_size {l : List (DataW H)} {s : ByteArray} (hk : Rows.uptoSmall H l = true) (hm : (DataW.lit (.string s.data.toList) : DataW H) ∈ l) : s.size ≤ maxLen := by
  have := upto_str hk hm
  unfold maxLen
  omega
end
end Go.Proofs.Yteeajmgiamdfdaa
