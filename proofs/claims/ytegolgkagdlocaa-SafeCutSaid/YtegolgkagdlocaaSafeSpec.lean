/- What a save does, in plain Lean. No program is in sight. Conditions: none beyond what each lemma names. -/
import Derived.Test.YtegolgkagdlocaaSafeA
namespace Go.Dol
open Go.RowKit
set_option linter.unusedVariables false
/-- The name of what is laid first. -/
def shd (n : ByteArray) : ByteArray := n ++ ⟨#[126]⟩
def endsT (n : ByteArray) : Bool := decide (n.data.toList.getLast? = some 126)
/-- Chunks are laid one behind the other, until one is refused. -/
def appAll (D : Dk) (s : ByteArray) : List (List UInt8) → Int × Dk
  | [] => (0, D)
  | c :: r => if (appD D s c).1 ≠ 0 then appD D s c else appAll (appD D s c).2 s r
def lastD (D : Dk) (n : ByteArray) : Int × Dk := if (syncD D (shd n)).1 ≠ 0 then syncD D (shd n) else renD (syncD D (shd n)).2 (shd n) n
def laidD (D : Dk) (n : ByteArray) (b : List UInt8) : Int × Dk := if (appAll D (shd n) (chunksOf b)).1 ≠ 0 then appAll D (shd n) (chunksOf b) else lastD (appAll D (shd n) (chunksOf b)).2 n
def tailD (D : Dk) (n : ByteArray) (b : List UInt8) : Int × Dk := if frD D < 16 + ((n.size : Int) + 1) + b.length then (4, D) else laidD D n b
def saveD (D : Dk) (n : ByteArray) (b : List UInt8) : Int × Dk :=
  if nameB (shd n) = false ∨ n.size = 0 ∨ endsT n = true then (1, D) else if D.dark = true then (5, D) else
    if (lookF D.l (shd n)).isSome = true then (if (remD D (shd n)).1 ≠ 0 then remD D (shd n) else tailD (remD D (shd n)).2 n b) else tailD D n b

theorem appAll_cons (D : Dk) (s : ByteArray) (c : List UInt8) (r : List (List UInt8)) : appAll D s (c :: r) = if (appD D s c).1 ≠ 0 then appD D s c else appAll (appD D s c).2 s r := rfl
theorem shd_size (n : ByteArray) : (shd n).size = n.size + 1 := by
  unfold shd
  rw [ByteArray.size_append]
  rfl
theorem OkD.all {D : Dk} (h : OkD D) (s : ByteArray) : ∀ l, OkD (appAll D s l).2
  | [] => h
  | c :: r => by
    unfold appAll
    split
    · exact h.app s c
    · exact (h.app s c).all s r
theorem OkD.last {D : Dk} (h : OkD D) (n : ByteArray) : OkD (lastD D n).2 := by
  unfold lastD
  split
  · exact h.sync _
  · exact (h.sync _).ren _ _
theorem OkD.laid {D : Dk} (h : OkD D) (n : ByteArray) (b : List UInt8) : OkD (laidD D n b).2 := by
  unfold laidD
  split
  · exact h.all _ _
  · exact (h.all _ _).last n
theorem OkD.tail {D : Dk} (h : OkD D) (n : ByteArray) (b : List UInt8) : OkD (tailD D n b).2 := by
  unfold tailD
  split
  · exact h
  · exact h.laid n b
theorem OkD.save {D : Dk} (h : OkD D) (n : ByteArray) (b : List UInt8) : OkD (saveD D n b).2 := by
  unfold saveD
  split
  · exact h
  · split
    · exact h
    · split
      · split
        · exact h.rem _
        · exact (h.rem _).tail n b
      · exact h.tail n b
/-- Chunks that were laid so far, and one more. -/
theorem appAll_snoc {D : Dk} {s : ByteArray} {l : List (List UInt8)} {c : List UInt8} (h : (appAll D s l).1 = 0) : appAll D s (l ++ [c]) = appD (appAll D s l).2 s c := by
  induction l generalizing D with
  | nil =>
    show (if (appD D s c).1 ≠ 0 then appD D s c else (0, (appD D s c).2)) = appD D s c
    split
    · rfl
    · rename_i h1
      have h2 : (appD D s c).1 = 0 := Decidable.not_not.1 h1
      rw [← h2]
  | cons d r ih =>
    rw [List.cons_append, appAll_cons]
    rw [appAll_cons] at h ⊢
    by_cases h1 : (appD D s d).1 ≠ 0
    · rw [if_pos h1] at h
      exact absurd h h1
    · rw [if_neg h1] at h
      rw [if_neg h1, if_neg h1]
      exact ih h
/-- Where one was refused no more are laid. -/
theorem appAll_stop {D : Dk} {s : ByteArray} {l r : List (List UInt8)} (h : (appAll D s l).1 ≠ 0) : appAll D s (l ++ r) = appAll D s l := by
  induction l generalizing D with
  | nil => exact absurd rfl h
  | cons d q ih =>
    rw [List.cons_append, appAll_cons]
    rw [appAll_cons] at h ⊢
    by_cases h1 : (appD D s d).1 ≠ 0
    · rw [if_pos h1, if_pos h1]
    · rw [if_neg h1] at h
      rw [if_neg h1, if_neg h1]
      exact ih h
end Go.Dol
