/- The commands of a script as they lie in memory, one behind the other: of five cells each. Conditions: none beyond what each law names. -/
import Derived.Test.YtogjlfpoedeooaaFar
namespace Go.Proofs.Ytogjlfpoedeooaa
open Go.RowKit Go.Dol
set_option linter.unusedVariables false
/-- A command. -/
structure OpA where
  k : Int
  a : ByteArray
  b : ByteArray
  l : List UInt8
  A : Option Addr
  c : Nat
  n : Int
def OpA.cells (x : OpA) : List Value := [.int .i64 x.k, .string x.a, .string x.b, .slice x.A x.l.length x.c, .int .i64 x.n]
def oc (l : List OpA) : List Value := l.flatMap OpA.cells
theorem oc_length (l : List OpA) : (oc l).length = l.length * 5 := by
  induction l with
  | nil => rfl
  | cons x r ih =>
    show (x.cells ++ oc r).length = _
    rw [List.length_append, ih, List.length_cons]
    show 5 + _ = _
    omega
theorem oc_at {l : List OpA} {k : Nat} {x : OpA} (h : l[k]? = some x) (j : Nat) (hj : j < 5) : (oc l)[k * 5 + j]? = x.cells[j]? := by
  induction l generalizing k with
  | nil => cases h
  | cons y r ih =>
    cases k with
    | zero =>
      have : y = x := by simpa using h
      subst this
      show (y.cells ++ oc r)[_]? = _
      rw [List.getElem?_append_left (by show _ < 5; omega)]
      congr 1
      omega
    | succ k =>
      have h' : r[k]? = some x := by simpa using h
      rw [← ih h']
      show (y.cells ++ oc r)[_]? = _
      rw [List.getElem?_append_right (by show 5 ≤ _; omega)]
      congr 1
      show (k + 1) * 5 + j - 5 = _
      omega
/-- Commands that read. -/
def Ops8 (w : World) (B : Nat) (l : List OpA) : Prop := ∀ x ∈ l, (Far w B x.A x.l ∧ x.l.length ≤ x.c ∧ x.c ≤ maxLen) ∧ x.a.size ≤ maxLen ∧ x.b.size ≤ maxLen ∧ (Lit.int .i64 x.k).wf = true ∧ (Lit.int .i64 x.n).wf = true
theorem Ops8.below {w w' : World} {B : Nat} {l : List OpA} (h : Ops8 w B l) (hb : Below w.heap.size w w') : Ops8 w' B l := fun x hx => ⟨⟨(h x hx).1.1.below hb, (h x hx).1.2⟩, (h x hx).2⟩
end Go.Proofs.Ytogjlfpoedeooaa
