/- The best common ancestors as the document finds them, in plain Lean. No program is in sight. Conditions: none beyond what each lemma names. -/
import Derived.Test.YteeajmgiamdfdaaOrdLaw
namespace Go.Dol
open Go.RowKit
set_option linter.unusedVariables false
/-- Is it one that none of these leads to alone? -/
noncomputable def bestB (l : List Nd) (cm : List ByteArray) (x : ByteArray) : Bool := @decide (∀ o ∈ cm, ¬ (Rch l [o] x ∧ ¬ Rch l [x] o)) (Classical.propDecidable _)
theorem bestB_iff {l : List Nd} {cm : List ByteArray} {x : ByteArray} : bestB l cm x = true ↔ ∀ o ∈ cm, ¬ (Rch l [o] x ∧ ¬ Rch l [x] o) := by
  unfold bestB
  exact @decide_eq_true_iff _ (Classical.propDecidable _)
def bothL (lx ly : List ByteArray) : List ByteArray := lx.filter fun x => decide (x ∈ ly)
theorem bothL_mem {lx ly : List ByteArray} {x : ByteArray} : x ∈ bothL lx ly ↔ x ∈ lx ∧ x ∈ ly := by
  unfold bothL
  simp
theorem Strict.filter {l : List ByteArray} (h : Strict l) (p : ByteArray → Bool) : Strict (l.filter p) := List.Pairwise.filter p h
theorem bases_ids {l : List Nd} {a b : ByteArray} {cm : List ByteArray} (hs : Strict cm) (hm : ∀ x, x ∈ cm ↔ Rch l [a] x ∧ Rch l [b] x) :
    Strict (cm.filter (bestB l cm)) ∧ ∀ x, x ∈ cm.filter (bestB l cm) ↔ BaseP l a b x := by
  refine ⟨hs.filter _, fun x => ?_⟩
  rw [List.mem_filter, bestB_iff, hm]
  unfold BaseP
  constructor
  · rintro ⟨h1, h2⟩
    exact ⟨h1, fun ⟨o, h3, h4⟩ => h2 o ((hm o).2 h3) h4⟩
  · rintro ⟨h1, h2⟩
    exact ⟨h1, fun o h3 h4 => h2 ⟨o, (hm o).1 h3, h4⟩⟩
theorem filter_snoc (p : ByteArray → Bool) (l : List ByteArray) (k : Nat) (x : ByteArray) (h : l[k]? = some x) : (l.take (k + 1)).filter p = if p x = true then (l.take k).filter p ++ [x] else (l.take k).filter p := by
  rw [List.take_add_one, h, List.filter_append]
  show _ ++ [x].filter p = _
  rw [List.filter_cons]
  split <;> simp
theorem Strict.nodup {l : List ByteArray} (h : Strict l) : l.Nodup := List.Pairwise.imp (fun {a b} hab e => by rw [e, sLt_irrefl] at hab; cases hab) h
end Go.Dol
