/- The library's contract that the layer 'sum' leans on, at this seat. Conditions: none. Where a byte stands in a text: what the library's answer says. Conditions: none. -/
import Derived.Test.YtecpbcmpncgokaaGreatRows
import Derived.Shelf.Small.Strs
import Derived.Test.YtecpbcmpncgokaaGreatWordsA
namespace Go.Proofs.YtecpbcmpncgokaaGreat
open Go.RowKit
def lays137_ren : Go.Shelf.Ren := ⟨fun | 137 => 172 | 217 => 243 | 266 => 270 | n => n, fun | 9 => 9 | 5 => 5 | 3 => 3 | n => n, fun | n => n⟩
theorem lays137 : Go.Proofs.Lays.n137 Tryz.prog lays137_ren := {
  mixed := by kernel_rfl
  f137 := Tryz.func172.trans (congrArg some (by kernel_rfl))
  f217 := Tryz.func243.trans (congrArg some (by kernel_rfl))
  f266 := Tryz.func270.trans (congrArg some (by kernel_rfl))
  t3 := Tryz.underlying3
  a3 := Tryz.isAgg3
  z3 := Tryz.sizeOf3
  v3 := Tryz.zeroValue3
  t5 := Tryz.underlying5
  a5 := Tryz.isAgg5
  z5 := Tryz.sizeOf5
  v5 := Tryz.zeroValue5
  t9 := Tryz.underlying9
  a9 := Tryz.isAgg9
  z9 := Tryz.sizeOf9
  v9 := Tryz.zeroValue9 }
theorem IndexByte_calls (s : ByteArray) (c : Int) (w : World) :
    Calls Tryz.prog 172 #[.string s, .int .u8 c] w fun e w' => e = .returned (.int .i64 (Lib.indexByte s.data.toList c.toNat.toUInt8)) ∧ w' = w := Any.strings_IndexByte lays137 s c w
end Go.Proofs.YtecpbcmpncgokaaGreat

namespace Go.Dol
theorem index_has {l : List UInt8} {c : UInt8} (h : l.contains c = true) : 0 ≤ Lib.indexByte l c := by
  have h1 := Lib.indexByte_ge l c
  rcases (show Lib.indexByte l c < 0 ∨ 0 ≤ Lib.indexByte l c by omega) with h2 | h2
  · have h3 : Lib.indexByte l c = -1 := by omega
    have h4 := Lib.indexByte_none h3
    rw [List.contains_iff_mem] at h
    obtain ⟨i, hi, e⟩ := List.getElem_of_mem h
    exact absurd (by rw [List.getElem?_eq_getElem hi, e]) (h4 i)
  · exact h2
theorem index_hasnt {l : List UInt8} {c : UInt8} (h : l.contains c = false) : Lib.indexByte l c = -1 := by
  have h1 := Lib.indexByte_ge l c
  rcases (show Lib.indexByte l c < 0 ∨ 0 ≤ Lib.indexByte l c by omega) with h2 | h2
  · omega
  · obtain ⟨k, hk⟩ : ∃ k : Nat, Lib.indexByte l c = k := ⟨(Lib.indexByte l c).toNat, by omega⟩
    have h3 := (Lib.indexByte_some hk).1
    have h4 : c ∈ l := by
      obtain ⟨hi, e⟩ := List.getElem?_eq_some_iff.1 h3
      rw [← e]
      exact List.getElem_mem hi
    rw [← List.contains_iff_mem, h] at h4
    cases h4
end Go.Dol
namespace Go.Proofs.YtecpbcmpncgokaaGreat
open Go.RowKit Go.Dol

theorem index_lit (s : ByteArray) (k : Int) (c : UInt8) (hc : k.toNat.toUInt8 = c) (w : World) : Calls Tryz.prog 172 #[.string s, .int .u8 k] w fun e w' => e = .returned (.int .i64 (Lib.indexByte s.data.toList c)) ∧ w' = w := by
  subst hc
  exact IndexByte_calls s k w
end Go.Proofs.YtecpbcmpncgokaaGreat
