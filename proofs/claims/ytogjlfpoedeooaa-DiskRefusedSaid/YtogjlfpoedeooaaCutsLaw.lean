/- A disk that is cut and one that is not, side by side, in plain Lean. No program is in sight. Conditions: as each lemma names. -/
import Derived.Test.YtogjlfpoedeooaaDiskLaw
namespace Go.Dol
open Go.RowKit
set_option linter.unusedVariables false
/-- A command: append, remove, rename, sync. -/
def opOf (q : Int) (a b : ByteArray) (l : List UInt8) (D : Dk) : Int × Dk :=
  if q = 0 then appD D a l else if q = 1 then remD D a else if q = 2 then renD D a b else syncD D a
/-- Two disks of the same files: the same answer, or the same raw write. -/
theorem op_form (q : Int) (a b : ByteArray) (l : List UInt8) {D E : Dk} (h1 : D.cap = E.cap) (h2 : D.l = E.l) (h3 : D.dark = E.dark) :
    (∃ k, opOf q a b l D = (k, D) ∧ opOf q a b l E = (k, E)) ∨ ∃ l', opOf q a b l D = spendD D l' ∧ opOf q a b l E = spendD E l' := by
  have hf : frD D = frD E := by unfold frD; rw [h1, h2]
  have ht : ∀ n, touchD D n = touchD E n := fun n => by unfold touchD; rw [h2, h3]
  unfold opOf
  by_cases q0 : q = 0
  · rw [if_pos q0, if_pos q0]
    have hm : appMore D a l = appMore E a l := by unfold appMore; rw [h2]
    unfold appD roomD
    rw [hm, h2, h3, hf]
    by_cases c1 : 64 < l.length ∨ nameB a = false
    · rw [if_pos c1, if_pos c1]; exact .inl ⟨_, rfl, rfl⟩
    · rw [if_neg c1, if_neg c1]
      by_cases c2 : E.dark = true
      · rw [if_pos c2, if_pos c2]; exact .inl ⟨_, rfl, rfl⟩
      · rw [if_neg c2, if_neg c2]
        split
        · exact .inl ⟨_, rfl, rfl⟩
        · exact .inr ⟨_, rfl, rfl⟩
  · rw [if_neg q0, if_neg q0]
    by_cases q1 : q = 1
    · rw [if_pos q1, if_pos q1]
      unfold remD
      rw [ht, h2]
      split
      · exact .inl ⟨_, rfl, rfl⟩
      · exact .inr ⟨_, rfl, rfl⟩
    · rw [if_neg q1, if_neg q1]
      by_cases q2 : q = 2
      · rw [if_pos q2, if_pos q2]
        have hm : renNeed D a b = renNeed E a b := by unfold renNeed; rw [h2]
        unfold renD roomD
        rw [hm, ht, h2, hf]
        split
        · exact .inl ⟨_, rfl, rfl⟩
        · split
          · exact .inl ⟨_, rfl, rfl⟩
          · split
            · exact .inl ⟨_, rfl, rfl⟩
            · exact .inr ⟨_, rfl, rfl⟩
      · rw [if_neg q2, if_neg q2]
        unfold syncD
        rw [ht, h2]
        split
        · exact .inl ⟨_, rfl, rfl⟩
        · exact .inr ⟨_, rfl, rfl⟩
/-- Ahead of the cut: as many raw writes are left. -/
structure InvC (D E : Dk) (n : Int) : Prop where
  cap : D.cap = E.cap
  l : D.l = E.l
  done : D.done = E.done
  dark : D.dark = false
  darkE : E.dark = false
  leftE : E.left = -1
  left : D.left = n - D.done
  left0 : 0 ≤ D.left
/-- At the end: the same files, as many raw writes, no more than there were to be. -/
structure EndC (D E : Dk) (n : Int) : Prop where
  cap : D.cap = E.cap
  l : D.l = E.l
  done : D.done = E.done
  le : (D.done : Int) ≤ n
theorem InvC.fin {D E : Dk} {n : Int} (h : InvC D E n) : EndC D E n := ⟨h.cap, h.l, h.done, by have h1 := h.left; have h2 := h.left0; omega⟩
theorem cut_step {D E D' E' : Dk} {n : Int} (h : InvC D E n) {q : Int} {a b : ByteArray} {l : List UInt8} {e f : Int} (hD : opOf q a b l D = (e, D')) (hE : opOf q a b l E = (f, E')) :
    (D'.dark = true ∧ EndC D' E n) ∨ (D'.dark = false ∧ e = f ∧ InvC D' E' n) := by
  rcases op_form q a b l h.cap h.l (h.dark.trans h.darkE.symm) with ⟨k, h1, h2⟩ | ⟨l', h1, h2⟩
  · rw [hD] at h1
    rw [hE] at h2
    injection h1 with h1 h1'
    injection h2 with h2 h2'
    subst h1' h2'
    exact .inr ⟨h.dark, h1.trans h2.symm, h⟩
  · rw [hD] at h1
    rw [hE] at h2
    unfold spendD at h1 h2
    rw [if_neg (by rw [h.leftE]; decide)] at h2
    have hl := h.left
    have hl0 := h.left0
    by_cases h0 : D.left = 0
    · rw [if_pos h0] at h1
      injection h1 with h1 h1'
      subst h1'
      exact .inl ⟨rfl, h.cap, h.l, h.done, by show (D.done : Int) ≤ n; omega⟩
    · rw [if_neg h0] at h1
      injection h1 with h1 h1'
      injection h2 with h2 h2'
      subst h1' h2'
      refine .inr ⟨h.dark, h1.trans h2.symm, ⟨h.cap, rfl, ?_, h.dark, h.darkE, ?_, ?_, ?_⟩⟩
      · show D.done + 1 = E.done + 1
        rw [h.done]
      · show (if 0 < E.left then E.left - 1 else E.left) = -1
        rw [if_neg (by rw [h.leftE]; decide)]
        exact h.leftE
      · show (if 0 < D.left then D.left - 1 else D.left) = n - ((D.done + 1 : Nat) : Int)
        rw [if_pos (by omega)]
        omega
      · show 0 ≤ (if 0 < D.left then D.left - 1 else D.left)
        rw [if_pos (by omega)]
        omega
end Go.Dol
