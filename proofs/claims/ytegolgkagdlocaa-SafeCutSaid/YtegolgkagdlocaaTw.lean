/- What a disk's turning leaves as it lies: bytes, rows, files. Conditions: none beyond what each law names. -/
import Derived.Test.YtegolgkagdlocaaDisk1
import Derived.Test.YtegolgkagdlocaaFil
namespace Go.Proofs.Ytegolgkagdlocaa
open Go.RowKit Go.Dol
set_option linter.unusedVariables false
/-- The last bits of a number. -/
theorem mask_rng (x : Int) (k : Nat) (m : Int) (hm : m = ((2 ^ k - 1 : Nat) : Int)) (hk : k ≤ 62) : 0 ≤ bits .and .i64 x m ∧ bits .and .i64 x m ≤ m := by
  subst hm
  have h2 : (2 : Nat) ^ k ≤ 2 ^ 62 := Nat.pow_le_pow_right (by decide) hk
  have hp : 0 < (2 : Nat) ^ k := Nat.two_pow_pos k
  have hb : (BitVec.ofInt 64 ((2 ^ k - 1 : Nat) : Int)).toNat = 2 ^ k - 1 := by
    rw [BitVec.ofInt_natCast, BitVec.toNat_ofNat]
    exact Nat.mod_eq_of_lt (by omega)
  obtain ⟨r, hr⟩ : ∃ r, r = (BitVec.ofInt 64 x &&& BitVec.ofInt 64 ((2 ^ k - 1 : Nat) : Int)).toNat := ⟨_, rfl⟩
  have ha : r ≤ 2 ^ k - 1 := by
    rw [hr, BitVec.toNat_and, hb]
    exact Nat.and_le_right
  have e : bits .and .i64 x ((2 ^ k - 1 : Nat) : Int) = IntKind.i64.wrap (r : Int) := by rw [hr]; rfl
  rw [e, IntWalk.i64_in _ (by omega)]
  omega
theorem Blk.tw {w w' : World} {g m x : Nat} {T : TypeId} {cs : List Value} (h : Blk w x T cs) (ht : Tw w w' g m) (h1 : x ≠ g) (h2 : x ≠ m) : Blk w' x T cs := (ht.block x h.lt h1 h2).trans h
section
variable {w w' : World} {g m : Nat} {D : Dk}
theorem Far.tw {W W' : World} {B g m : Nat} {A : Option Addr} {l : List UInt8} (h : Far W B A l) (ht : Tw W W' g m) (hg : Other W B (some g)) (hm : Other W B (some m)) : Far W' B A l := by
  rcases Nat.eq_zero_or_pos l.length with h0 | h0
  · rw [List.eq_nil_of_length_eq_zero h0]
    exact Far.nil
  obtain ⟨b, off, e, hb, hc⟩ := h.1.at_ h0
  have hs : segBlock A = some b := by rw [e]; rfl
  have hne : ∀ k, Other W B (some k) → b ≠ k := by
    rintro k hk rfl
    obtain ⟨h1, h2⟩ := hk b rfl
    rcases h.2 h0 b hs with h3 | ⟨cur, fr, h3⟩
    · omega
    · exact h2 cur fr h3
  have hk := ht.block b hb (hne g hg) (hne m hm)
  refine ⟨⟨h.1.len, fun _ => ⟨b, off, e, Nat.lt_of_lt_of_le hb ht.size, fun j u hu => (World.cell?_of_block hk).trans (hc j u hu)⟩⟩, fun _ k hk2 => ?_⟩
  rw [hs] at hk2
  injection hk2 with hk2
  subst hk2
  rw [hk]
  exact h.2 h0 b hs
theorem Dsk.others (h : Dsk w g m D) {B : Nat} (hg : B ≤ g) (hm : B ≤ m) : Other w B (some g) ∧ Other w B (some m) := by
  obtain ⟨al, hB, hM, _⟩ := h
  refine ⟨Other.blk hB (by decide) hg, fun k hk => ?_⟩
  injection hk with hk
  subst hk
  exact ⟨hm, (Other.map hM m rfl).2⟩
/-- What is owned and is no disk lies still where a disk turns. -/
theorem own_tw {base : Nat} {T : TypeId} {size : Nat} {v : Value} {n : Nat} {xs : List Value} (hD : Dsk w g m D) (ht : Tw w w' g m) (ho : w.ownsRow base T size v n xs) (hT : T ≠ 77) : w'.ownsRow base T size v n xs := by
  refine ⟨ho.1, ?_⟩
  rcases ho.2 with hn | ⟨k, cap, cur, rfl, hb, hk, rest⟩
  · exact .inl hn
  · have hlt : k < w.heap.size := (Array.getElem?_eq_some_iff.1 hk).1
    obtain ⟨al, hB, hM, _⟩ := hD
    have h1 : k ≠ g := by
      rintro rfl
      unfold Blk at hB
      rw [hB] at hk
      injection hk with hk
      injection hk with _ hk
      exact hT hk.symm
    have h2 : k ≠ m := by
      rintro rfl
      obtain ⟨es, clock, hb2, _⟩ := hM
      rw [hb2] at hk
      cases hk
    exact .inr ⟨k, cap, cur, rfl, hb, (ht.block k hlt h1 h2).trans hk, rest⟩
theorem Dsk.offRows (hD : Dsk w g m D) : Other w 0 (some g) ∧ Other w 0 (some m) := by
  obtain ⟨al, hB, hM, _⟩ := hD
  exact ⟨Other.blk hB (by decide) (Nat.zero_le _), Other.map hM⟩
theorem Fls8.tw {l : List FilA} (hD : Dsk w g m D) (ht : Tw w w' g m) (h : Fls8 w 0 l) : Fls8 w' 0 l := fun x hx => ⟨(h x hx).1.tw ht hD.offRows.1 hD.offRows.2, (h x hx).2⟩
end
end Go.Proofs.Ytegolgkagdlocaa
