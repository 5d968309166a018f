/- Short names for types and lemmas that many rows use. Conditions: none. Short names for lemmas that the walks use on many rows. Conditions: none. -/
import Derived.Test.YtecpbcmpncgokaaGreatRows
import Derived.OwnWalk
import Derived.Below
import Derived.IntWalk
import Derived.Lib.Hide
import Derived.OrdersHeld
namespace Go
open RowKit
abbrev BA := ByteArray
abbrev LU := List UInt8
abbrev OA := Option Addr
theorem qI {p : Prop} (h : p) : RowKit.Hid p := h
theorem lR (n : Nat) : n ≤ n := Nat.le_refl n
theorem bR (B : Nat) (w : World) : Below B w w := Below.refl B w
theorem gR (w : World) (row : Option Nat) : w.grownBy w row := World.grownBy.refl w row
theorem dT {p : Prop} [Decidable p] (h : p) : decide p = true := decide_eq_true h
theorem qF {p : Prop} [Decidable p] (h : ¬ p) : decide p = false := decide_eq_false h
theorem qJ (n : Int) (h : -9223372036854775808 ≤ n ∧ n ≤ 9223372036854775807) : IntKind.i64.wrap n = n := IntWalk.i64_in n h
theorem gE {α : Type _} {l : List α} {i : Nat} (h : i < l.length) : l[i]? = some l[i] := List.getElem?_eq_getElem h
theorem nZ {α : Type _} {l : List α} (h : l.length = 0) : l = [] := List.eq_nil_of_length_eq_zero h
theorem lT {a b c : Nat} (h : a ≤ b) (k : b ≤ c) : a ≤ c := Nat.le_trans h k
theorem zL (n : Nat) : 0 ≤ n := Nat.zero_le n
theorem gS {α : Type _} {l : List α} {i : Nat} {a : α} : l[i]? = some a ↔ ∃ h : i < l.length, l[i] = a := List.getElem?_eq_some_iff
theorem bN {α : Type _} [BEq α] [LawfulBEq α] {a b : α} : (a == b) = false ↔ a ≠ b := beq_eq_false_iff_ne
end Go
namespace Go.Proofs.YtecpbcmpncgokaaGreat
theorem sA {α : Type _} (l : List α) (i : Nat) (a : α) : l.toArray.setIfInBounds i a = (l.set i a).toArray := List.setIfInBounds_toArray l i a
theorem sB {α : Type _} {x : α} {xs : List α} {a : α} : (x :: xs).set 0 a = a :: xs := rfl
theorem sC {α : Type _} {x : α} {xs : List α} {i : Nat} {a : α} : (x :: xs).set (i + 1) a = x :: xs.set i a := rfl
theorem sD {α : Type _} {xs : List α} {i : Nat} (h : i < xs.toArray.size) : xs.toArray[i] = xs[i] := rfl
theorem sE {α : Type _} (a : α) (l : List α) (i : Nat) (h : i + 1 < (a :: l).length) : (a :: l)[i + 1] = l[i]'(Nat.lt_of_succ_lt_succ h) := rfl
theorem sF {α : Type _} (a : α) (l : List α) (h : 0 < (a :: l).length) : (a :: l)[0] = a := rfl
theorem tk {P : Program} {ops : Array Oper} {Q : Exit → Act → World → Prop} {md : Region.Mode} {S : World → Prop} (i : Nat) (v : Value) {oi : Oper} {fuel : Nat} {listed : Array Bool} {a : Act} {w : World} (hi : ops[i]? = some oi)
    (hQ : ∀ c a w, Q (.panic c) (a.put oi.dst v) w → Q (.panic c) a w) (hy : YieldsIf P ops S oi v a) (hS : S w)
    (h : wpAnyH P md ops Q S fuel (listed.setIfInBounds i true) (a.put oi.dst v) w)
    (hs : Region.noSelect ops = true := by kernel_rfl) (hf : Region.free md ops listed i = true := by kernel_rfl) (hr : (Region.ready md ops listed).contains i = true := by kernel_rfl) : wpAnyH P md ops Q S (fuel + 1) listed a w :=
  wpAnyH_take (i := i) (oi := oi) (v := v) hi hs hf hr hQ hy hS h
end Go.Proofs.YtecpbcmpncgokaaGreat
