/- The search for the longest copy, in plain Lean: over the places of four bytes, from the nearest on. No program is in sight. Conditions: as each lemma names. -/
import Derived.Test.YtjikoeokmdnciaaPress9
namespace Go.Dol
set_option linter.unusedVariables false

theorem posOf_mem {b : List UInt8} {n p : Nat} {K : List UInt8} : p ∈ posOf b n K ↔ p < n ∧ (b.drop p).take 4 = K := by
  unfold posOf
  rw [List.mem_filter, List.mem_range]
  simp
theorem posOf_sorted (b : List UInt8) (n : Nat) (K : List UInt8) : (posOf b n K).Pairwise (· < ·) := List.Pairwise.filter _ List.pairwise_lt_range
/-- m places are left, each farther than d; whatever is farther and like is among them. -/
def LgInv (b : List UInt8) (i : Nat) (zs : List Nat) (m d : Nat) : Prop :=
  m ≤ zs.length ∧ d ≤ i ∧ d ≤ 4096 ∧ (∀ j p, j < m → zs[j]? = some p → p + d < i) ∧ (∀ e, d < e → e ≤ i → (b.drop (i - e)).take 4 = (b.drop i).take 4 → ∃ j, j < m ∧ zs[j]? = some (i - e))
theorem LgInv.start (b : List UInt8) (i : Nat) : LgInv b i (posOf b i ((b.drop i).take 4)) (posOf b i ((b.drop i).take 4)).length 0 := by
  refine ⟨Nat.le_refl _, Nat.zero_le _, Nat.zero_le _, fun j p hj hp => ?_, fun e he hei hK => ?_⟩
  · have := (posOf_mem.1 (List.mem_of_getElem? hp)).1
    omega
  · obtain ⟨j, hj, hjp⟩ := List.getElem_of_mem (posOf_mem.2 ⟨show i - e < i by omega, hK⟩)
    exact ⟨j, hj, by rw [List.getElem?_eq_getElem hj, hjp]⟩
theorem LgInv.none_between {b : List UInt8} {i m d d' : Nat} {zs : List Nat} (h : LgInv b i zs m d) (hi : i + 4 ≤ b.length) (hd : d ≤ d') (hd' : d' ≤ i) (hz : ∀ e, d < e → e ≤ d' → ¬ ∃ j, j < m ∧ zs[j]? = some (i - e)) : lngD b i d' = lngD b i d := by
  have e1 : d' = d + (d' - d) := by omega
  rw [e1]
  refine lngD_skips _ fun e he hle => ?_
  rcases Nat.lt_or_ge (alikeN b (i - e) i) 4 with h4 | h4
  · exact h4
  · exact absurd (h.2.2.2.2 e he (by omega) ((four_iff (by omega) hi).2 h4)) (hz e he (by omega))
theorem LgInv.end0 {b : List UInt8} {i d : Nat} {zs : List Nat} (h : LgInv b i zs 0 d) (hi : i + 4 ≤ b.length) : lngD b i d = lng b i := by
  unfold lng
  exact (h.none_between hi (Nat.le_min.2 ⟨h.2.2.1, h.2.1⟩) (by omega) fun e _ _ ⟨j, hj, _⟩ => by omega).symm
theorem LgInv.endF {b : List UInt8} {i m d : Nat} {zs : List Nat} (h : LgInv b i zs m d) (hf : (lngD b i d).1 = 259) : lngD b i d = lng b i := by
  unfold lng
  have e1 : min 4096 i = d + (min 4096 i - d) := by have := h.2.1; have := h.2.2.1; omega
  rw [e1, lngD_full hf]
theorem LgInv.endW {b : List UInt8} {i m d p : Nat} {K : List UInt8} (h : LgInv b i (posOf b i K) (m + 1) d) (hi : i + 4 ≤ b.length) (hp : (posOf b i K)[m]? = some p) (hw : 4096 < i - p) : lngD b i d = lng b i := by
  unfold lng
  refine (h.none_between hi (Nat.le_min.2 ⟨h.2.2.1, h.2.1⟩) (by omega) fun e he hle ⟨j, hj, hjp⟩ => ?_).symm
  have hpw := posOf_sorted b i K
  have hjl := (List.getElem?_eq_some_iff.1 hjp)
  have hml := (List.getElem?_eq_some_iff.1 hp)
  rcases Nat.lt_or_ge j m with hjm | hjm
  · have := List.pairwise_iff_getElem.1 hpw j m hjl.1 hml.1 hjm
    rw [hjl.2, hml.2] at this
    omega
  · have : j = m := by omega
    subst this
    rw [hp] at hjp
    injection hjp
    omega
theorem LgInv.step {b : List UInt8} {i m d p : Nat} (h : LgInv b i (posOf b i ((b.drop i).take 4)) (m + 1) d) (hi : i + 4 ≤ b.length) (hp : (posOf b i ((b.drop i).take 4))[m]? = some p) (hw : i - p ≤ 4096) :
    LgInv b i (posOf b i ((b.drop i).take 4)) m (i - p) ∧ p < i ∧ lngD b i (i - p) = if (lngD b i d).1 < alikeN b p i then (alikeN b p i, i - p) else lngD b i d := by
  have hpw := posOf_sorted b i ((b.drop i).take 4)
  have hml := (List.getElem?_eq_some_iff.1 hp)
  have hpm := posOf_mem.1 (List.mem_of_getElem? hp)
  have hpd := h.2.2.2.1 m p (by omega) hp
  have hlt : ∀ j q, j < m → (posOf b i ((b.drop i).take 4))[j]? = some q → q < p := fun j q hj hq => by
    have hjl := (List.getElem?_eq_some_iff.1 hq)
    have := List.pairwise_iff_getElem.1 hpw j m hjl.1 hml.1 hj
    rw [hjl.2, hml.2] at this
    exact this
  refine ⟨⟨by have := h.1; omega, by omega, hw, fun j q hj hq => ?_, fun e he hei hK => ?_⟩, hpm.1, ?_⟩
  · have := hlt j q hj hq
    omega
  · obtain ⟨j, hj, hjp⟩ := h.2.2.2.2 e (by omega) hei hK
    refine ⟨j, ?_, hjp⟩
    rcases Nat.lt_or_ge j m with hjm | hjm
    · exact hjm
    · have : j = m := by omega
      subst this
      rw [hp] at hjp
      injection hjp
      omega
  · have h4 : 4 ≤ alikeN b (i - ((i - p - 1) + 1)) i := by
      rw [show i - ((i - p - 1) + 1) = p by omega]
      exact (four_iff (by omega) hi).1 hpm.2
    have hb := h.none_between (d' := i - p - 1) hi (by omega) (by omega) fun e he hle ⟨j, hj, hjp⟩ => by
      rcases Nat.lt_or_ge j m with hjm | hjm
      · have := hlt j _ hjm hjp
        omega
      · have : j = m := by omega
        subst this
        rw [hp] at hjp
        injection hjp
        omega
    have ht := lngD_take h4
    rw [show i - ((i - p - 1) + 1) = p by omega, show (i - p - 1) + 1 = i - p by omega, hb] at ht
    exact ht
theorem lngD_bounds (b : List UInt8) (i d : Nat) : (lngD b i d).1 ≤ 259 ∧ (lngD b i d).2 ≤ d := by
  unfold lngD
  have := bestD_spec b i d
  split
  · exact ⟨this.2.1, this.1⟩
  · exact ⟨by simp, by simp⟩
end Go.Dol
