/- Bytes that read, below a block or in a row of bytes; what keeps them. Conditions: none beyond what each law names. -/
import Derived.Test.YtegolgkagdlocaaPiece
import Derived.Test.YtegolgkagdlocaaRows
namespace Go.Proofs.Ytegolgkagdlocaa
open Go.RowKit Go.Dol
set_option linter.unusedVariables false

/-- Bytes that read; they lie below block B or in a row of bytes. -/
def Far (w : World) (B : Nat) (A : Option Addr) (l : List UInt8) : Prop := Rd w w.heap.size 1 A l.length (bc l) ∧ (0 < l.length → ∀ k, segBlock A = some k → k < B ∨ ∃ cur fr, w.heap[k]? = some (.cells cur 5 fr))
/-- A row that is none of bytes, from block B on. -/
def Other (w : World) (B : Nat) (row : Option Nat) : Prop := ∀ k, row = some k → B ≤ k ∧ ∀ cur fr, w.heap[k]? ≠ some (.cells cur 5 fr)
theorem Other.blk {w : World} {B g : Nat} {T : TypeId} {cs : List Value} (h : Blk w g T cs) (hT : T ≠ 5) (hB : B ≤ g) : Other w B (some g) := by
  intro k hk
  injection hk with hk
  subst hk
  refine ⟨hB, fun cur fr e => ?_⟩
  unfold Blk at h
  rw [h] at e
  injection e with e
  injection e with _ e
  exact hT e
theorem Other.own {w : World} {B base : Nat} {e : TypeId} {size : Nat} {v : Value} {n : Nat} {xs : List Value} (h : w.ownsRow base e size v n xs) (he : e ≠ 5) (hB : B ≤ base) : Other w B v.ownBlock := by
  intro k hk
  rcases h.2 with ⟨rfl, _⟩ | ⟨g, cap, cur, rfl, h2, h3, _⟩
  · cases hk
  · have e1 : g = k := by
      have e2 : (some g : Option Nat) = some k := hk
      injection e2
    subst e1
    refine ⟨by omega, fun cur' fr' e' => ?_⟩
    rw [h3] at e'
    injection e' with e'
    injection e' with _ e'
    exact he e'
theorem Far.nil {w : World} {B : Nat} {A : Option Addr} : Far w B A [] := ⟨Rd.nil, fun h => absurd h (by decide)⟩
theorem Far.keep {w w' : World} {B : Nat} {A : Option Addr} {l : List UInt8} (h : Far w B A l) {row : Option Nat} (hg : w.grownBy w' row) (hr : Other w B row) : Far w' B A l := by
  rcases Nat.eq_zero_or_pos l.length with h0 | h0
  · obtain rfl : l = [] := List.eq_nil_of_length_eq_zero h0
    exact Far.nil
  obtain ⟨b, off, e, hb, hc⟩ := h.1.at_ h0
  have hs : segBlock A = some b := by rw [e]; rfl
  have hne : some b ≠ row := fun e2 => by
    obtain ⟨h1, h2⟩ := hr b e2.symm
    rcases h.2 h0 b hs with h3 | ⟨cur, fr, h3⟩
    · omega
    · exact h2 cur fr h3
  refine ⟨⟨h.1.len, fun _ => ⟨b, off, e, Nat.lt_of_lt_of_le hb hg.size, fun j u hu => (World.cell?_of_block (hg.block b hb hne)).trans (hc j u hu)⟩⟩, fun _ k hk => ?_⟩
  rw [hs] at hk
  injection hk with hk
  subst hk
  rw [hg.block b hb hne]
  exact h.2 h0 b hs
theorem Far.below {w w' : World} {B : Nat} {A : Option Addr} {l : List UInt8} (h : Far w B A l) (hb : Below w.heap.size w w') : Far w' B A l := h.keep (grown_of_below hb none) fun _ e => by cases e
theorem Far.drew {w : World} {B : Nat} {A : Option Addr} {l : List UInt8} (h : Far w B A l) : Far w.drew B A l := ⟨h.1.drew, h.2⟩
theorem Far.of_rd {w : World} {B : Nat} {A : Option Addr} {l : List UInt8} (h : Rd w B 1 A l.length (bc l)) (hg : B ≤ w.heap.size) : Far w B A l := by
  refine ⟨h.more hg, fun hn k hk => .inl ?_⟩
  obtain ⟨b, off, e, hb, hc⟩ := h.at_ hn
  rw [e] at hk
  injection hk with hk
  have e3 : b = k := hk
  omega
theorem Far.of_seg {w : World} {base B : Nat} {A : Option Addr} {l : List UInt8} {c : Nat} (h : Seg w base 5 1 A l.length c (bc l)) : Far w B A l := by
  refine ⟨h.rd, fun hn k hk => .inr ?_⟩
  have hc := h.2.1
  rcases h.2.2.2 with h4 | ⟨g, off, cur, rfl, a2, a3, _⟩
  · omega
  · injection hk with hk
    have e3 : g = k := hk
    subst e3
    exact ⟨cur, (0, 0), a3⟩
theorem Far.piece {w : World} {B0 B k : Nat} {A A' : Option Addr} {l m : List UInt8} {c' : Nat} (h : Far w B A l) (hp : Piece w B0 m A' c') (hB : B0 ≤ w.heap.size) (hk : m.length + k ≤ l.length) (hs : segBlock A' = segBlock A) : Far w B A' m :=
  ⟨hp.1.more hB, fun hn => by rw [hs]; exact h.2 (by omega)⟩
end Go.Proofs.Ytegolgkagdlocaa
