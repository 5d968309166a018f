/- A disk whose files are in order and fit memory, whatever they cost together. No program is in sight. Conditions: none beyond what each law names. -/
import Derived.Test.YtegolgkagdlocaaFil
namespace Go.Dol
open Go.RowKit
set_option linter.unusedVariables false
/-- A disk whose files are in order and fit memory. -/
structure OkL (D : Dk) : Prop where
  ord : InOrder D.l
  cap0 : 0 ≤ D.cap
  cap1 : D.cap ≤ 1099511627776
  names : ∀ f ∈ D.l, nameB f.1 = true
  len : D.l.length ≤ 3518437208880
  small : ∀ f ∈ D.l, f.2.length ≤ 140737488355328
theorem OkD.toL {D : Dk} (h : OkD D) : OkL D := by
  refine ⟨h.ord, h.cap0, h.cap1, h.names, ?_, fun f hf => h.small ((look_some h.ord).2 hf)⟩
  have h1 := costs_len D.l
  have h2 := h.room
  have h3 := h.cap1
  omega
theorem OkW.toL {D : Dk} (h : OkW D) : OkL D := ⟨h.ord, h.cap0, h.cap1, h.names, h.len, fun f hf => by have := h.bytes f hf; omega⟩
theorem OkL.sizes {D : Dk} (h : OkL D) : ∀ f ∈ D.l, f.1.size ≤ 200 := fun f hf => by
  have h1 := h.names f hf
  unfold nameB at h1
  simp only [Bool.and_eq_true, decide_eq_true_eq] at h1
  exact h1.1.2
theorem costs_small {l : List Fil} (h : costs l ≤ 140737488355328) : ∀ f ∈ l, f.1.size ≤ 140737488355328 ∧ f.2.length ≤ 140737488355328 := fun f hf => by
  have h1 := costs_mem hf
  unfold costF at h1
  omega
end Go.Dol
namespace Go.Proofs.Ytegolgkagdlocaa
open Go.RowKit Go.Dol
theorem fls_small {fs : List FilA} (h : costs (fs.map FilA.f) ≤ 140737488355328) : fs.length ≤ 140737488355328 ∧ ∀ x ∈ fs, x.n.size ≤ 140737488355328 ∧ x.b.length ≤ 140737488355328 := by
  refine ⟨?_, fun x hx => costs_small h x.f (List.mem_map.2 ⟨x, hx, rfl⟩)⟩
  have h1 := costs_len (fs.map FilA.f)
  rw [List.length_map] at h1
  omega
end Go.Proofs.Ytegolgkagdlocaa
