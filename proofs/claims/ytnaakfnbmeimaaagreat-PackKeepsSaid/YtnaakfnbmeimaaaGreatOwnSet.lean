/- A store into a row of one-celled elements that the call owns; bytes of such a row that are turned one by one. Conditions: none. -/
import Derived.Test.YtnaakfnbmeimaaaGreatWordsA
namespace Go.Dol
open Go.RowKit
set_option linter.unusedVariables false
/-- A store into a row that the call owns. -/
theorem own_set {w : World} {base : Nat} {e : TypeId} {g n c : Nat} {xs : List Value} (h : w.ownsRow base e 1 (.slice (some ⟨g, 0, none⟩) n c) n xs) {k : Nat} (hk : k < n) (u : Value) :
    (w.setCell ⟨g, k, none⟩ u).ownsRow base e 1 (.slice (some ⟨g, 0, none⟩) n c) n (xs.set k u) ∧ w.grownBy (w.setCell ⟨g, k, none⟩ u) (some g) ∧ w.frozen? ⟨g, k, none⟩ = false ∧ w.cell? ⟨g, k, none⟩ = xs[k]? ∧ base ≤ g ∧ g < w.heap.size := by
  rcases h.2 with ⟨h1, _⟩ | ⟨g', cap, cur, h1, h2, h3, h4, h5, h6, h7⟩
  · injection h1 with h1
    cases h1
  · injection h1 with hA _ hc
    injection hA with hA
    injection hA with hA _ _
    subst hA
    subst hc
    have hB : Blk w g e cur.toList := by unfold Blk; rw [h3]
    have hB2 := hB.set k u
    have hkc : k < cur.size := by omega
    refine ⟨⟨by rw [List.length_set]; exact h.1, .inr ⟨g, c, (cur.toList.set k u).toArray, rfl, h2, hB2, h4, h5, by simpa using h6, ?_⟩⟩, grown_setCell (World.grownBy.refl w _) k u, hB.free k, ?_, h2, hB.lt⟩
    · rw [← h7, List.take_set]
    · rw [hB.cell, ← h7, List.getElem?_take, if_pos (by omega)]
/-- Where a row lies that the call owns and that isn't empty. -/
theorem own_at {w : World} {base : Nat} {e : TypeId} {A : Option Addr} {n c : Nat} {xs : List Value} (h : w.ownsRow base e 1 (.slice A n c) n xs) (hn : 0 < n) : ∃ g, A = some ⟨g, 0, none⟩ ∧ base ≤ g ∧ g < w.heap.size := by
  rcases h.2 with ⟨_, h0⟩ | ⟨g, cap, cur, h1, h2, h3, _⟩
  · omega
  · injection h1 with hA _ hc
    exact ⟨g, hA, h2, (Array.getElem?_eq_some_iff.1 h3).1⟩
/-- The rounds of a loop that turns bytes. -/
def ByteRel (e : TypeId) (base g n c : Nat) (w : World) (i : Value) (wr : World) : Prop :=
  ∃ (k : Nat) (xs : List Value), i = .int .i64 k ∧ k ≤ n ∧ wr.ownsRow base e 1 (.slice (some ⟨g, 0, none⟩) n c) n xs ∧ Hid (∀ j, j < n → ∃ x : Int, xs[j]? = some (.int .u8 x)) ∧ w.grownBy wr (some g)
theorem bytes_set {n k : Nat} {xs : List Value} {u : Int} (hl : xs.length = n) (hk : k < n) (h : ∀ j, j < n → ∃ x : Int, xs[j]? = some (.int .u8 x)) : ∀ j, j < n → ∃ x : Int, (xs.set k (.int .u8 u))[j]? = some (.int .u8 x) := fun j hj => by
  by_cases hjk : k = j
  · subst hjk
    exact ⟨_, by rw [List.getElem?_set_self (by omega)]⟩
  · rw [List.getElem?_set_ne hjk]
    exact h j hj
end Go.Dol
