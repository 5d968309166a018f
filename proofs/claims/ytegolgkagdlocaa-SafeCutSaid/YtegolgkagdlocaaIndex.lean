/- Where a byte stands in a text: what the library's answer says. Conditions: none. -/
import Derived.Test.YtegolgkagdlocaaSumShelf
import Derived.Test.YtegolgkagdlocaaWords2
namespace Go.Dol
theorem index_has {l : List UInt8} {c : UInt8} (h : l.contains c = true) : 0 ≤ Lib.indexByte l c := by
  have h1 := Lib.indexByte_ge l c
  rcases (show Lib.indexByte l c < 0 ∨ 0 ≤ Lib.indexByte l c by omega) with h2 | h2
  · have h3 : Lib.indexByte l c = -1 := by omega
    have h4 := Lib.indexByte_none h3
    rw [List.contains_iff_mem] at h
    obtain ⟨i, hi, e⟩ := List.getElem_of_mem h
    exact absurd (by rw [List.getElem?_eq_getElem hi, e]) (h4 i)
  · exact h2
theorem index_hasnt {l : List UInt8} {c : UInt8} (h : l.contains c = false) : Lib.indexByte l c = -1 := by
  have h1 := Lib.indexByte_ge l c
  rcases (show Lib.indexByte l c < 0 ∨ 0 ≤ Lib.indexByte l c by omega) with h2 | h2
  · omega
  · obtain ⟨k, hk⟩ : ∃ k : Nat, Lib.indexByte l c = k := ⟨(Lib.indexByte l c).toNat, by omega⟩
    have h3 := (Lib.indexByte_some hk).1
    have h4 : c ∈ l := by
      obtain ⟨hi, e⟩ := List.getElem?_eq_some_iff.1 h3
      rw [← e]
      exact List.getElem_mem hi
    rw [← List.contains_iff_mem, h] at h4
    cases h4
end Go.Dol
namespace Go.Proofs.Ytegolgkagdlocaa
open Go.RowKit Go.Dol

theorem index_lit (s : ByteArray) (k : Int) (c : UInt8) (hc : k.toNat.toUInt8 = c) (w : World) : Calls Try.prog 74 #[.string s, .int .u8 k] w fun e w' => e = .returned (.int .i64 (Lib.indexByte s.data.toList c)) ∧ w' = w := by
  subst hc
  exact IndexByte_calls s k w
end Go.Proofs.Ytegolgkagdlocaa
