/- Rows of rows of bytes: what reads of them. Conditions: none. -/
import Derived.Test.YtnaakfnbmeimaaaGreatWordsA
namespace Go.Dol
open Go.RowKit
set_option linter.unusedVariables false
/-- Bytes, and the slice that they are. -/
structure RowB where
  l : List UInt8
  A : Option Addr
  c : Nat
def RowB.v (x : RowB) : Value := .slice x.A x.l.length x.c
def rc (l : List RowB) : List Value := l.map RowB.v
theorem rc_length (l : List RowB) : (rc l).length = l.length := by simp [rc]
theorem rc_get {l : List RowB} {i : Nat} {x : RowB} (h : l[i]? = some x) : (rc l)[i]? = some (.slice x.A x.l.length x.c) := by simp [rc, RowB.v, h]
theorem rc_app (a b : List RowB) : rc (a ++ b) = rc a ++ rc b := by simp [rc]
/-- Rows that read. -/
def Rws (w : World) (B : Nat) (l : List RowB) : Prop := ∀ x ∈ l, Rd w B 1 x.A x.l.length (bc x.l) ∧ x.l.length ≤ x.c ∧ x.c ≤ maxLen
theorem Rws.nil {w : World} {B : Nat} : Rws w B [] := fun x hx => (List.not_mem_nil hx).elim
theorem Rws.below {w w' : World} {B : Nat} {l : List RowB} (h : Rws w B l) (hb : Below B w w') : Rws w' B l := fun x hx => ⟨(h x hx).1.below hb, (h x hx).2⟩
theorem Rws.belowW {w w' : World} {B : Nat} {l : List RowB} (h : Rws w B l) (hb : Below w.heap.size w w') (hB : B ≤ w.heap.size) : Rws w' B l := fun x hx => ⟨(h x hx).1.belowW hb hB, (h x hx).2⟩
theorem Rws.more {w : World} {B B' : Nat} {l : List RowB} (h : Rws w B l) (hB : B ≤ B') : Rws w B' l := fun x hx => ⟨(h x hx).1.more hB, (h x hx).2⟩
theorem Rws.grown {w w' : World} {B : Nat} {l : List RowB} (h : Rws w B l) {row : Option Nat} (hg : w.grownBy w' row) (hB : B ≤ w.heap.size) (hr : ∀ g, row = some g → B ≤ g) : Rws w' B l := fun x hx => ⟨(h x hx).1.grown hg hB hr, (h x hx).2⟩
theorem Rws.alive {w w' : World} {l : List RowB} (h : Rws w w.heap.size l) (hb : Below w.heap.size w w') : Rws w' w'.heap.size l := (h.below hb).more hb.size
theorem Rws.app {w : World} {B : Nat} {a b : List RowB} (h1 : Rws w B a) (h2 : Rws w B b) : Rws w B (a ++ b) := fun x hx => by
  rcases List.mem_append.1 hx with h | h
  · exact h1 x h
  · exact h2 x h
theorem Rws.one {w : World} {B : Nat} {x : RowB} (h : Rd w B 1 x.A x.l.length (bc x.l)) (h1 : x.l.length ≤ x.c) (h2 : x.c ≤ maxLen) : Rws w B [x] := fun y hy => by
  obtain rfl := List.mem_singleton.1 hy
  exact ⟨h, h1, h2⟩
end Go.Dol
