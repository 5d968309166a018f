/- A map of the call's own: an entry is taken away; what turns two blocks alone. Conditions: none beyond what each law names. -/
import Derived.Test.YtegolgkagdlocaaMapL
namespace Go.Dol
open Go.RowKit Go.MapKept
open Go.Maps (Keyed)
open Go.ChangeMaps (setBlock heap_setBlock_same heap_setBlock_other modify_eq_set)
set_option linter.unusedVariables false

/-- What becomes of the entries where a key is taken away. -/
def MDel (al : List (Value × Value)) (key : Value) (al' : List (Value × Value)) : Prop :=
  ((∀ p ∈ al, p.1 ≠ key) ∧ al' = al) ∨ ∃ l r v0, al = l ++ (key, v0) :: r ∧ al' = l ++ r

section
variable {P : Program} {k e t : TypeId} {w w' : World} {B : Nat} {al : List (Value × Value)}
/-- 'delete(m, k)'. -/
theorem MapL.drop (h : MapL P k w B al) (K : Keyed P k) (ht : P.underlying t = some (.map k e)) {key : Value} {kl : Lit} (hkey : keyOf P k key = some kl) (ty : TypeId) :
    ∃ al' w', (Builtin.delete_ #[t, k] ty #[.map (some B), key]).run P w = .ok (.tuple #[]) w' ∧ MapL P k w' B al' ∧ MDel al key al' ∧ w.grownBy w' (some B) := by
  obtain ⟨es, clock, hb, hs, hk, rfl⟩ := h
  rcases K.find w hkey es.toList hk with ⟨h1, h2⟩ | ⟨j, e0, h1, h2, h3⟩
  · refine ⟨_, setBlock w B (.map es clock), ?_, ⟨es, clock, heap_setBlock_same hb _, hs, hk, rfl⟩, .inl ⟨?_, rfl⟩, grown_setBlock hb _⟩
    · simp [Builtin.delete_, run_underlying ht, MapKept.run_getObj_map hb, K.check w _ hkey, h1, MapKept.run_setObj_map _ hb, Result.andThen, setBlock]
    · intro p hp
      obtain ⟨x, hx, rfl⟩ := List.mem_map.1 hp
      exact h2 x hx
  · have hjl : j < es.toList.length := (List.getElem?_eq_some_iff.1 h2).1
    have hjs : j < es.size := by simpa using hjl
    have hsub : (es.eraseIdxIfInBounds j).toList = es.toList.eraseIdx j := by
      unfold Array.eraseIdxIfInBounds
      rw [dif_pos hjs]
      simp
    refine ⟨_, setBlock w B (.map (es.eraseIdxIfInBounds j) clock), ?_, ⟨es.eraseIdxIfInBounds j, clock, heap_setBlock_same hb _, stamped_erase hs j, ?_, rfl⟩, .inr ⟨(es.toList.take j).map (fun e => (e.key, e.val)), (es.toList.drop (j + 1)).map (fun e => (e.key, e.val)), e0.val, ?_, ?_⟩, grown_setBlock hb _⟩
    · simp [Builtin.delete_, run_underlying ht, MapKept.run_getObj_map hb, K.check w _ hkey, h1, MapKept.run_setObj_map _ hb, Result.andThen, setBlock]
    · intro x hx
      rw [hsub] at hx
      exact hk x ((List.eraseIdx_sublist _ _).subset hx)
    · have := List.take_append_drop j es.toList
      rw [List.drop_eq_getElem_cons hjl, (List.getElem?_eq_some_iff.1 h2).2] at this
      rw [← h3]
      conv => lhs; rw [← this]
      simp
    · rw [hsub, List.eraseIdx_eq_take_drop_succ]
      simp
end

/-- 'w' is w but for two blocks, and new blocks. -/
structure Tw (w w' : World) (g m : Nat) : Prop where
  os : w'.os = w.os
  tape : w'.tape = w.tape
  output : w'.output = w.output
  size : w.heap.size ≤ w'.heap.size
  block : ∀ i, i < w.heap.size → i ≠ g → i ≠ m → w'.heap[i]? = w.heap[i]?
section
variable {w w1 w' : World} {g m B : Nat}
theorem Tw.refl (w : World) (g m : Nat) : Tw w w g m := ⟨rfl, rfl, rfl, Nat.le_refl _, fun _ _ _ _ => rfl⟩
theorem Tw.step (h : Tw w w1 g m) (h2 : Tw w1 w' g m) : Tw w w' g m :=
  ⟨h2.os.trans h.os, h2.tape.trans h.tape, h2.output.trans h.output, Nat.le_trans h.size h2.size, fun i hi h3 h4 => (h2.block i (Nat.lt_of_lt_of_le hi h.size) h3 h4).trans (h.block i hi h3 h4)⟩
theorem Tw.grown (h : w.grownBy w' (some g)) : Tw w w' g m := ⟨h.os, h.tape, h.output, h.size, fun i hi h1 _ => h.block i hi (fun e => h1 (by injection e))⟩
theorem Tw.grownM (h : w.grownBy w' (some m)) : Tw w w' g m := ⟨h.os, h.tape, h.output, h.size, fun i hi _ h1 => h.block i hi (fun e => h1 (by injection e))⟩
theorem Tw.below (h : Below w.heap.size w w') : Tw w w' g m := ⟨h.os, h.tape, h.output, h.size, fun i hi _ _ => h.block i hi⟩
theorem Tw.toBelow (h : Tw w w' g m) (hg : B ≤ g) (hm : B ≤ m) (hB : B ≤ w.heap.size) : Below B w w' :=
  ⟨h.os, h.tape, h.output, h.size, fun k hk => h.block k (by omega) (by omega) (by omega)⟩
/-- What turns new blocks alone turns nothing. -/
theorem Tw.new {w0 : World} (h0 : Below w0.heap.size w0 w) (h : Tw w w' g m) (hg : w0.heap.size ≤ g) (hm : w0.heap.size ≤ m) : Below w0.heap.size w0 w' := h0.trans (h.toBelow hg hm h0.size)
theorem Tw.drew (h : Tw w w' g m) : Tw w w'.drew g m := ⟨h.os, h.tape, h.output, h.size, h.block⟩
end
end Go.Dol
