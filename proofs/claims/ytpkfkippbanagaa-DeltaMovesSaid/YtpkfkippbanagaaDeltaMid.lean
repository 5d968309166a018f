/- The middle's tokens without fuel, step by step; a piece of a slice of bytes as the walk spells it. Conditions: as each lemma names. -/
import Derived.Test.YtpkfkippbanagaaDeltaLaw
import Derived.Test.YtpkfkippbanagaaSeg2
namespace Go.Dol
open Go.RowKit
set_option linter.unusedVariables false

theorem mid_fuel (base m : List UInt8) : ∀ (f g i frm : Nat), m.length - i ≤ f → m.length - i ≤ g → mid base m f i frm = mid base m g i frm := by
  intro f
  induction f with
  | zero =>
    intro g i frm h1 h2
    cases g with
    | zero => rfl
    | succ g => rw [mid, mid, if_neg (by omega)]
  | succ f ih =>
    intro g i frm h1 h2
    cases g with
    | zero => rw [mid, mid, if_neg (by omega)]
    | succ g =>
      rw [mid, mid]
      split
      · cases hk : blockAt base (m.drop i) with
        | none => exact ih g _ _ (by omega) (by omega)
        | some k =>
          have hsp := blockAt_spec hk
          simp only
          rw [ih g _ _ (by omega) (by omega)]
      · rfl
def midG (base m : List UInt8) (i frm : Nat) : List UInt8 := mid base m (m.length - i) i frm
theorem midL_is (base m : List UInt8) : midL base m = midG base m 0 0 := rfl
theorem midG_end {base m : List UInt8} {i frm : Nat} (h : m.length ≤ i) : midG base m i frm = runB (m.drop frm) := by
  unfold midG
  rw [show m.length - i = 0 by omega]
  rfl
theorem midG_next {base m : List UInt8} {i frm : Nat} (h : i < m.length) (hk : blockAt base (m.drop i) = none) : midG base m i frm = midG base m (i + 1) frm := by
  unfold midG
  rw [show m.length - i = (m.length - (i + 1)) + 1 by omega, mid, if_pos h, hk]
theorem midG_copy {base m : List UInt8} {i frm k : Nat} (h : i < m.length) (hk : blockAt base (m.drop i) = some k) :
    midG base m i frm = runB ((m.drop frm).take (i - frm)) ++ (copyOf (begins (base.drop k) (m.drop i)) k ++ midG base m (i + begins (base.drop k) (m.drop i)) (i + begins (base.drop k) (m.drop i))) := by
  have hsp := blockAt_spec hk
  unfold midG
  rw [show m.length - i = (m.length - (i + 1)) + 1 by omega, mid, if_pos h, hk]
  simp only
  rw [mid_fuel base m _ (m.length - (i + begins (base.drop k) (m.drop i))) _ _ (by omega) (Nat.le_refl _)]
theorem midG_short {base m : List UInt8} : ∀ (d i frm : Nat), m.length - i ≤ d → m.length < i + 16 → midG base m i frm = runB (m.drop frm) := by
  intro d
  induction d with
  | zero => intro i frm h1 h2; exact midG_end (by omega)
  | succ d ih =>
    intro i frm h1 h2
    rcases Nat.lt_or_ge i m.length with h | h
    · rw [midG_next h (by unfold blockAt; rw [if_neg (by rw [List.length_drop]; omega)])]
      exact ih _ _ (by omega) (by omega)
    · exact midG_end h
theorem enc_parts (base target : List UInt8) {p e : Nat} (hp : p = begins base target) (he : e = ends (base.drop p) (target.drop p)) :
    encL base target = num base.length ++ (num target.length ++ (copyOf p 0 ++ (midG base ((target.drop p).take (target.length - p - e)) 0 0 ++ copyOf e (base.length - e)))) := by
  subst hp
  subst he
  rfl

section
variable {P : Program} {w : World} {B : Nat} {A : Option Addr} {l : List UInt8} {c : Nat} {t e : TypeId}
theorem run_sliceAt8 (w : World) (ht : P.underlying t = some (.slice e)) (x : Value) (lo hi mx : Option Value) : (Instr.sliceAt t x lo hi mx).run P w = (Instr.slice t x lo hi mx).run P w := by
  simp [Instr.sliceAt, run_underlying ht]
end
end Go.Dol
