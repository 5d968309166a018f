/- Rows of rows of bytes: what reads of them. Conditions: none. -/
import Derived.Test.YtnaakfnbmeimaaaGreatWordsA
set_option linter.unusedVariables false
namespace Go.Dol
open Go.RowKit
structure RowB where
 l : List UInt8
 A : Option Addr
 c : Nat
def RowB.v (x : RowB) : Value:=.slice x.A x.l.length x.c
def rc (l : List RowB) : List Value:=l.map RowB.v
theorem rc_get {l : List RowB} {i : Nat} {x : RowB} (h : l[i]? = some x) : (rc l)[i]? = some (.slice x.A x.l.length x.c):=by simp [rc,RowB.v,h]
def Rws (w : World) (B : Nat) (l : List RowB) : Prop:=∀ x ∈ l,Rd w B 1 x.A x.l.length (bc x.l) ∧ x.l.length ≤ x.c ∧ x.c ≤ maxLen
theorem Rws.nil {w : World} {B : Nat} : Rws w B []:=fun x hx => (List.not_mem_nil hx).elim
end Go.Dol
