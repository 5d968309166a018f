/- The commands of a script as they lie in memory, one behind the other: of four cells each. Conditions: none beyond what each law names. -/
import Derived.Test.YtegolgkagdlocaaFar
namespace Go.Proofs.Ytegolgkagdlocaa
open Go.RowKit Go.Dol
set_option linter.unusedVariables false
/-- A command. -/
structure OpS where
  k : Int
  a : ByteArray
  l : List UInt8
  A : Option Addr
  c : Nat
  n : Int
def OpS.cells (x : OpS) : List Value := [.int .i64 x.k, .string x.a, .slice x.A x.l.length x.c, .int .i64 x.n]
def o4 (l : List OpS) : List Value := l.flatMap OpS.cells
theorem o4_length (l : List OpS) : (o4 l).length = l.length * 4 := by
  induction l with
  | nil => rfl
  | cons x r ih =>
    show (x.cells ++ o4 r).length = _
    rw [List.length_append, ih, List.length_cons]
    show 4 + _ = _
    omega
theorem o4_at {l : List OpS} {k : Nat} {x : OpS} (h : l[k]? = some x) (j : Nat) (hj : j < 4) : (o4 l)[k * 4 + j]? = x.cells[j]? := by
  induction l generalizing k with
  | nil => cases h
  | cons y r ih =>
    cases k with
    | zero =>
      have : y = x := by simpa using h
      subst this
      show (y.cells ++ o4 r)[_]? = _
      rw [List.getElem?_append_left (by show _ < 4; omega)]
      congr 1
      omega
    | succ k =>
      have h' : r[k]? = some x := by simpa using h
      rw [← ih h']
      show (y.cells ++ o4 r)[_]? = _
      rw [List.getElem?_append_right (by show 4 ≤ _; omega)]
      congr 1
      show (k + 1) * 4 + j - 4 = _
      omega
/-- Commands that read. -/
def OpS8 (w : World) (B : Nat) (l : List OpS) : Prop := ∀ x ∈ l, (Far w B x.A x.l ∧ x.l.length ≤ x.c ∧ x.c ≤ maxLen) ∧ x.a.size ≤ maxLen ∧ (Lit.int .i64 x.k).wf = true ∧ (Lit.int .i64 x.n).wf = true
theorem OpS8.below {w w' : World} {B : Nat} {l : List OpS} (h : OpS8 w B l) (hb : Below w.heap.size w w') : OpS8 w' B l := fun x hx => ⟨⟨(h x hx).1.1.below hb, (h x hx).1.2⟩, (h x hx).2⟩
end Go.Proofs.Ytegolgkagdlocaa
