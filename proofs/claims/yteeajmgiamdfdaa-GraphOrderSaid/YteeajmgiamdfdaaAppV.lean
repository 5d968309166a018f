/- append onto a row of elements of one cell that the call owns. Conditions: none beyond what each law names. -/
import Derived.Test.YteeajmgiamdfdaaBlk
import Derived.Deep.RegionHeld3
namespace Go.Dol
open Go.RowKit
/-- append onto elements of one cell that the call owns, at a step of a region that draws. -/
theorem appVr {P : Program} {w : World} {ops : Array Oper} {o : Oper} {a : Act} {K : Act → World → Prop} {Q : Exit → Act → World → Prop} {E : Prop} (hgd : o.guard = none) (s x : Operand) (t e : TypeId) (z : Value) (bytes : Nat)
    (ho : o.op = .call { callee := .builtin .append, args := #[s, x], argTypes := #[t, t] })
    (ht : P.underlying t = some (.slice e)) (hi : (P.info? e).map (fun i => (i.zero, i.size, i.bytes)) = some (some z, 1, bytes)) (hzs : z.cells.size = 1)
    (base : Nat) (v : Value) (n : Nat) (xs : List Value) (hs : a.eval s = v) (hown : w.ownsRow base e 1 v n xs)
    (B : Nat) (A : Option Addr) (m c : Nat) (news : List Value) (hx : a.eval x = .slice A m c) (hr : Rd w B 1 A m news) (h1 : ∀ u ∈ news, u.oneCell' = true)
    (hmax : n + m ≤ maxLen) (hlen : (n + m) * bytes ≤ 140737488355328) (hbase : base ≤ w.heap.size)
    (h : ∀ (A' : Option Addr) (c' : Nat) (w' : World), w'.ownsRow base e 1 (.slice A' (n + m) c') (n + m) (xs ++ news) → Below base w w' → w.grownBy w' v.ownBlock →
      n + m ≤ c' → c' ≤ maxLen → K (a.put o.dst (.slice A' (n + m) c')) w') : if Region.wanted o (yielded ops a.tmps) = true then Oper.wp P o a w K Q else E := by
  have hw : Region.wanted o (yielded ops a.tmps) = true := by simp [Region.wanted, hgd]
  rw [if_pos hw]
  refine wp_append_rd w s x _ ho base _ _ 1 bytes ht hi hzs (by decide) v n xs hs hown B A m c news hx hr h1 hmax hlen hbase ?_
  intro A' c' w' h1 h2 h3 h4 h5
  exact h _ c' w' h1 ((Below.refl _ _).grown h2 hbase (fun k hk => (hown.lt k hk).1)) h2 h4 h5
/-- The same, at an operation of the list. -/
theorem appVl {P : Program} {w : World} {ops : Array Oper} {rest : List Oper} {o : Oper} {a : Act} {Q : Exit → Act → World → Prop} (hgd : o.guard = none) (s x : Operand) (t e : TypeId) (z : Value) (bytes : Nat)
    (ho : o.op = .call { callee := .builtin .append, args := #[s, x], argTypes := #[t, t] })
    (ht : P.underlying t = some (.slice e)) (hi : (P.info? e).map (fun i => (i.zero, i.size, i.bytes)) = some (some z, 1, bytes)) (hzs : z.cells.size = 1)
    (base : Nat) (v : Value) (n : Nat) (xs : List Value) (hs : a.eval s = v) (hown : w.ownsRow base e 1 v n xs)
    (B : Nat) (A : Option Addr) (m c : Nat) (news : List Value) (hx : a.eval x = .slice A m c) (hr : Rd w B 1 A m news) (h1 : ∀ u ∈ news, u.oneCell' = true)
    (hmax : n + m ≤ maxLen) (hlen : (n + m) * bytes ≤ 140737488355328) (hbase : base ≤ w.heap.size)
    (h : ∀ (A' : Option Addr) (c' : Nat) (w' : World), w'.ownsRow base e 1 (.slice A' (n + m) c') (n + m) (xs ++ news) → Below base w w' → w.grownBy w' v.ownBlock →
      n + m ≤ c' → c' ≤ maxLen → wpList P ops Q rest (a.put o.dst (.slice A' (n + m) c')) w') : wpList P ops Q (o :: rest) a w := by
  refine wpList_append_rd w hgd s x _ ho base _ _ 1 bytes ht hi hzs (by decide) v n xs hs hown B A m c news hx hr h1 hmax hlen hbase ?_
  intro A' c' w' h1 h2 h3 h4 h5
  exact h _ c' w' h1 ((Below.refl _ _).grown h2 hbase (fun k hk => (hown.lt k hk).1)) h2 h4 h5
/-- One cell that was just made. -/
theorem Rd.new1 (w : World) (T : TypeId) (u : Value) : Rd (w.alloc (.cells #[u] T)) (w.heap.size + 1) 1 (some ⟨w.heap.size, 0, none⟩) 1 [u] := by
  refine ⟨by simp, fun _ => ⟨w.heap.size, 0, rfl, by omega, fun j u' hu => ?_⟩⟩
  have hj : j < 1 := by have := (List.getElem?_eq_some_iff.1 hu).1; simpa using this
  obtain rfl : j = 0 := by omega
  have : u' = u := by simpa using hu.symm
  subst this
  simp
/-- What a row of one-celled elements that the call owns holds, as a block. -/
theorem blk_of_own {w : World} {base : Nat} {e : TypeId} {A : Option Addr} {c n : Nat} {xs : List Value} (h : w.ownsRow base e 1 (.slice A n c) n xs) (hn : 0 < n) :
    ∃ g tail, A = some ⟨g, 0, none⟩ ∧ base ≤ g ∧ Blk w g e (xs ++ tail) := by
  rcases h.2 with ⟨h1, _⟩ | ⟨g, cap, cur, h1, h2, h3, h4, h5, h6, h7⟩
  · injection h1 with _ h1
    omega
  · injection h1 with hA _ hc
    refine ⟨g, cur.toList.drop (n * 1), hA, h2, ?_⟩
    unfold Blk
    rw [h3, ← h7, List.take_append_drop]
end Go.Dol

namespace Go.Dol
open Go.RowKit
/-- A row that was just made, whole. -/
theorem own_new (w : World) (e : TypeId) (base n : Nat) (cs : List Value) (hn : cs.length = n) (hb : base ≤ w.heap.size) (hm : n ≤ maxLen) : (w.alloc (.cells cs.toArray e)).ownsRow base e 1 (.slice (some ⟨w.heap.size, 0, none⟩) n n) n cs :=
  ⟨by omega, .inr ⟨w.heap.size, n, cs.toArray, rfl, hb, heap_alloc_new w _, Nat.le_refl _, hm, by simp [hn], by simp [← hn]⟩⟩
end Go.Dol
