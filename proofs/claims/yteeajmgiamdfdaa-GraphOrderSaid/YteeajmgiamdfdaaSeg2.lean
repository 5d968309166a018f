/- Slices of the call's own that lie apart: what an append onto one leaves of another. Conditions: none beyond what each law names. -/
import Derived.Test.YteeajmgiamdfdaaBlk
namespace Go.Dol
open Go.RowKit
theorem Seg.keepR {w w' : World} {base : Nat} {e : TypeId} {size : Nat} {A : Option Addr} {n c : Nat} {xs : List Value} (h : Seg w base e size A n c xs) {row : Option Nat} (hg : w.grownBy w' row) (hr : ∀ g, segRow A c = some g → some g ≠ row) : Seg w' base e size A n c xs := by
  obtain ⟨h1, h2, h3, h4⟩ := h
  refine ⟨h1, h2, h3, ?_⟩
  by_cases hc : c = 0
  · exact .inl hc
  · rcases h4 with h4 | ⟨g, off, cur, rfl, a2, a3, a4⟩
    · exact .inl h4
    · refine .inr ⟨g, off, cur, rfl, a2, (hg.block g (Array.getElem?_eq_some_iff.1 a3).1 (hr g ?_)).trans a3, a4⟩
      unfold segRow
      rw [if_pos (by omega)]
      rfl
/-- The slice (A, c) does not lie in the row of which v is a piece. -/
def Apart (A : Option Addr) (c : Nat) (v : Value) : Prop := ∀ g, segRow A c = some g → some g ≠ v.ownBlock
theorem Apart.nil (A : Option Addr) (c : Nat) : Apart A c (.slice none 0 0) := fun g _ h => by cases h
/-- Behind an append onto v: v' lies where v lay, or in a new block. -/
theorem Apart.app {w : World} {base : Nat} {e : TypeId} {size : Nat} {A : Option Addr} {n c : Nat} {xs : List Value} {v v' : Value} (h : Apart A c v) (hs : Seg w base e size A n c xs) {H : Nat} (hH : w.heap.size ≤ H) (hl : v'.ownBlock = v.ownBlock ∨ v'.ownBlock = some H) : Apart A c v' := by
  intro g hg
  rcases hl with hl | hl
  · rw [hl]
    exact h g hg
  · rw [hl]
    have := (hs.row g hg).2
    intro e
    injection e
    omega
/-- What lies from a world's end on lies apart from what was owned in it. -/
theorem Apart.new {w w' : World} {base base' : Nat} {e e' : TypeId} {size size' : Nat} {A : Option Addr} {n c n' : Nat} {xs xs' : List Value} {v : Value} (ho : w.ownsRow base e size v n xs) (hs : Seg w' base' e' size' A n' c xs') (hb : w.heap.size ≤ base') : Apart A c v := by
  intro g hg e
  have h1 := (ho.lt g e.symm).2
  have h2 := (hs.row g hg).1
  omega
/-- A piece of a slice that lies apart. -/
theorem Apart.piece {A A' : Option Addr} {c c' : Nat} {v : Value} (h : Apart A c v) (hc : 0 < c' → 0 < c) (hA : segBlock A' = segBlock A) : Apart A' c' v := by
  intro g hg
  refine h g ?_
  unfold segRow at hg ⊢
  split at hg
  · rw [if_pos (hc (by assumption)), ← hA]
    exact hg
  · cases hg
theorem segBlock_add (A : Option Addr) (k : Nat) : segBlock (A.map (·.add k)) = segBlock A := by
  cases A with
  | none => rfl
  | some a => simp [segBlock, Addr.add]; split <;> rfl
/-- 's[k:]' of bytes of the call's own. -/
theorem Seg.tail8 {w : World} {base : Nat} {e : TypeId} {A : Option Addr} {c k : Nat} {l : List UInt8} (h : Seg w base e 1 A l.length c (bc l)) (hk : k ≤ l.length) : Seg w base e 1 (if c = k then A else A.map (·.add k)) (l.length - k) (c - k) (bc (l.drop k)) := by
  have := h.cut (lo := k) (hi := l.length) hk (Nat.le_refl _)
  rw [Nat.mul_one, Nat.mul_one, bc_drop, bc_take, List.take_of_length_le (by simp)] at this
  exact this
theorem Seg.len8 {w : World} {base : Nat} {e : TypeId} {A : Option Addr} {n c : Nat} {l : List UInt8} (h : Seg w base e 1 A n c (bc l)) : n = l.length := by
  have := h.1
  rw [bc_length] at this
  omega
theorem bcell {W w1 : World} (hb : Below W.heap.size W w1) : (∀ b o, b < W.heap.size → w1.cell? ⟨b, o, none⟩ = W.cell? ⟨b, o, none⟩) ∧ (∀ b o, b < W.heap.size → w1.frozen? ⟨b, o, none⟩ = W.frozen? ⟨b, o, none⟩) :=
  ⟨fun b o h => hb.cell (p := ⟨b, o, none⟩) h, fun b o h => hb.frozen (p := ⟨b, o, none⟩) h⟩
def lenV : Value → Nat
  | .slice _ n _ => n
  | _ => 0
theorem add_spelt (A : Option Addr) (k : Nat) : A.map (·.add (k + 1)) = A.map (fun x => { block := x.block, off := x.off + (k + 1) }) := by
  cases A with
  | none => rfl
  | some a => simp [Addr.add]
theorem own_belowW {w w' : World} {base : Nat} {e : TypeId} {size : Nat} {v : Value} {n : Nat} {xs : List Value} (h : w.ownsRow base e size v n xs) (hb : Below w.heap.size w w') : w'.ownsRow base e size v n xs := by
  cases hv : v.ownBlock with
  | none => exact h.kept (grown_of_below hb none) (.inl hv)
  | some g => exact h.kept (grown_of_below hb none) (.inr (by rw [hv]; simp))
theorem own_grown {w w' : World} {base : Nat} {e : TypeId} {size : Nat} {v : Value} {n : Nat} {xs : List Value} {g : Nat} (h : w.ownsRow base e size v n xs) (hg : w.grownBy w' (some g)) (hlt : g < base) : w'.ownsRow base e size v n xs := by
  cases hv : v.ownBlock with
  | none => exact h.kept hg (.inl hv)
  | some k =>
    have := (h.lt k hv).1
    exact h.kept hg (.inr (by rw [hv]; intro e; injection e; omega))
/-- What is owned does not lie in a block of another type. -/
theorem own_ne {w : World} {base : Nat} {e T : TypeId} {size : Nat} {v : Value} {n : Nat} {xs cs : List Value} {g : Nat} (h : w.ownsRow base e size v n xs) (hb : Blk w g T cs) (hT : T ≠ e) : v.ownBlock ≠ some g := by
  intro hv
  rcases h.2 with ⟨rfl, _⟩ | ⟨k, cap, cur, rfl, _, hh, _⟩
  · cases hv
  · have hv' : k = g := by simpa [Value.ownBlock] using hv
    unfold Blk at hb
    rw [hv'] at hh
    rw [hb] at hh
    injection hh with hh
    injection hh with _ hh
    exact hT hh
theorem own_other {w w' : World} {base : Nat} {e T : TypeId} {size : Nat} {v : Value} {n : Nat} {xs cs : List Value} {g : Nat} (h : w.ownsRow base e size v n xs) (hb : Blk w g T cs) (hT : T ≠ e) (hg : w.grownBy w' (some g)) : w'.ownsRow base e size v n xs :=
  h.kept hg (.inr (own_ne h hb hT))
theorem seg_other {w w' : World} {base : Nat} {e T : TypeId} {size : Nat} {A : Option Addr} {n c : Nat} {xs cs : List Value} {g : Nat} (h : Seg w base e size A n c xs) (hb : Blk w g T cs) (hT : T ≠ e) (hg : w.grownBy w' (some g)) : Seg w' base e size A n c xs := by
  refine h.keepR hg fun k hk hkg => ?_
  have hkg' : k = g := by simpa using hkg
  rw [hkg'] at hk
  unfold segRow at hk
  split at hk
  · rcases h.2.2.2 with h4 | ⟨k', off, cur, rfl, _, hh, _⟩
    · omega
    · unfold Blk at hb
      have hk' : k' = g := by simpa [segBlock] using hk
      rw [hk'] at hh
      rw [hb] at hh
      injection hh with hh
      injection hh with _ hh
      exact hT hh
  · cases hk
theorem own_le {w : World} {base : Nat} {e : TypeId} {size : Nat} {A : Option Addr} {n c : Nat} {xs : List Value} (h : w.ownsRow base e size (.slice A n c) n xs) : n ≤ c ∧ c ≤ maxLen := by
  obtain ⟨_, _, h, h1, h2⟩ := own_form h
  injection h with _ _ h
  omega
theorem _root_.Go.RowKit.Below.next {a b c : World} (h : Below a.heap.size a b) (h2 : Below b.heap.size b c) : Below a.heap.size a c := h.trans (h2.mono h.size)
end Go.Dol
