/- append at an operation: onto a slice that the call owns and that begins anywhere in its row; onto a row, with a word on where the new one lies. Conditions: as each law names. -/
import Derived.Test.YteeajmgiamdfdaaAppN
import Derived.Test.YteeajmgiamdfdaaSeg2
namespace Go.Dol
open Go.RowKit
set_option linter.unusedVariables false
section
variable {P : Program} {w : World} {ops : Array Oper} {rest : List Oper} {o : Oper} {a : Act} {Q : Exit → Act → World → Prop}
theorem appSl (hgd : o.guard = none) (s x : Operand) (t e : TypeId) (z : Value) (bytes : Nat)
    (ho : o.op = .call { callee := .builtin .append, args := #[s, x], argTypes := #[t, t] })
    (ht : P.underlying t = some (.slice e)) (hi : (P.info? e).map (fun i => (i.zero, i.size, i.bytes)) = some (some z, 1, bytes)) (hzs : z.cells.size = 1)
    (base : Nat) (A : Option Addr) (n c : Nat) (xs : List Value) (hs : a.eval s = .slice A n c) (hseg : Seg w base e 1 A n c xs)
    (B : Nat) (A2 : Option Addr) (m c2 : Nat) (news : List Value) (hx : a.eval x = .slice A2 m c2) (hr : Rd w B 1 A2 m news) (h1 : ∀ u ∈ news, u.oneCell' = true)
    (hmax : n + m ≤ maxLen) (hlen : (n + m) * bytes ≤ 140737488355328) (hbase : base ≤ w.heap.size)
    (h : ∀ (A' : Option Addr) (c' : Nat) (w' : World), Seg w' base e 1 A' (n + m) c' (xs ++ news) → Below base w w' → w.grownBy w' (segRow A c) → Hid ((A' = A ∧ c' = c) ∨ (c < n + m ∧ segBlock A' = some w.heap.size)) →
      n + m ≤ c' → c' ≤ maxLen → wpList P ops Q rest (a.put o.dst (.slice A' (n + m) c')) w') : wpList P ops Q (o :: rest) a w :=
  wpList_step fun K hK => by
    have hw : Region.wanted o (yielded ops a.tmps) = true := by simp [Region.wanted, hgd]
    rw [if_pos hw]
    refine wp_append_seg2 w s x t t ho base e z 1 bytes ht hi hzs A n c xs hs hseg (.slice A2 m c2) m news hx (Src.ofRd ht hr h1) hmax hlen hbase ?_
    intro A' c' w' h2 h3 h4 h5 h6
    exact hK _ _ (h A' c' w' h2 ((Below.refl _ _).grown h3 hbase fun k hk => (hseg.row k hk).1) h3 h4 h5 h6)
theorem appVl2 (hgd : o.guard = none) (s x : Operand) (t e : TypeId) (z : Value) (bytes : Nat)
    (ho : o.op = .call { callee := .builtin .append, args := #[s, x], argTypes := #[t, t] })
    (ht : P.underlying t = some (.slice e)) (hi : (P.info? e).map (fun i => (i.zero, i.size, i.bytes)) = some (some z, 1, bytes)) (hzs : z.cells.size = 1)
    (base : Nat) (v : Value) (n : Nat) (xs : List Value) (hs : a.eval s = v) (hown : w.ownsRow base e 1 v n xs)
    (B : Nat) (A : Option Addr) (m c : Nat) (news : List Value) (hx : a.eval x = .slice A m c) (hr : Rd w B 1 A m news) (h1 : ∀ u ∈ news, u.oneCell' = true)
    (hmax : n + m ≤ maxLen) (hlen : (n + m) * bytes ≤ 140737488355328) (hbase : base ≤ w.heap.size)
    (h : ∀ (A' : Option Addr) (c' : Nat) (w' : World), w'.ownsRow base e 1 (.slice A' (n + m) c') (n + m) (xs ++ news) → Below base w w' → w.grownBy w' v.ownBlock → Hid ((Value.slice A' (n + m) c').ownBlock = v.ownBlock ∨ (Value.slice A' (n + m) c').ownBlock = some w.heap.size) →
      n + m ≤ c' → c' ≤ maxLen → wpList P ops Q rest (a.put o.dst (.slice A' (n + m) c')) w') : wpList P ops Q (o :: rest) a w := by
  refine wpList_append_rd w hgd s x _ ho base _ _ 1 bytes ht hi hzs (by decide) v n xs hs hown B A m c news hx hr h1 hmax hlen hbase ?_
  intro A' c' w' h1 h2 h3 h4 h5
  exact h _ c' w' h1 ((Below.refl _ _).grown h2 hbase (fun k hk => (hown.lt k hk).1)) h2 h3 h4 h5
end
/-- The todo-list apart from a row, behind an append onto it. -/
theorem Apart.seg {w : World} {base : Nat} {e : TypeId} {size : Nat} {A A' : Option Addr} {c c' n : Nat} {v : Value} {xs : List Value} (h : Apart A c v) (ho : w.ownsRow base e size v n xs) (hl : (A' = A ∧ c' = c) ∨ segBlock A' = some w.heap.size) : Apart A' c' v := by
  rcases hl with ⟨rfl, rfl⟩ | hl
  · exact h
  · intro g hg he
    have h1 := (ho.lt g he.symm).2
    unfold segRow at hg
    split at hg
    · rw [hl] at hg
      injection hg with hg
      omega
    · cases hg
end Go.Dol
