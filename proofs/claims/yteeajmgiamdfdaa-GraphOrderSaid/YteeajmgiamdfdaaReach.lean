/- The walk of the program's Reaches. Conditions: as of Closure. -/
import Derived.Test.YteeajmgiamdfdaaClo
namespace Go.Proofs.Yteeajmgiamdfdaa
open Go.RowKit Go.Dol
set_option linter.unusedVariables false
set_option maxRecDepth 100000 in
set_option maxHeartbeats 1600000 in
theorem Reaches_calls (A : Option Addr) (l : List NdA) (c : Nat) (a b : ByteArray) (w : World) (h : NdsOk w A l) (ha : a.size ≤ maxLen) (hb : b.size ≤ maxLen) (hl : 1 + room (l.map NdA.f) [] [] ≤ 549755813888) :
    Calls Try.prog 11 #[.slice A l.length c, .string a, .string b] w fun e w' => ∃ v : Bool, e = .returned (.bool v) ∧ (v = true ↔ Rch (l.map NdA.f) [a] b) ∧ Below w.heap.size w w' := by
  have HKn := Lib.hid (know_calls A l c w h.rd h.len h.ids)
  obtain ⟨kl, hkey⟩ := str_key b hb
  go_enter Try.func11, Try.ntmps11
  go_wp2_with fail
  refine HKn.out.mono ?_
  rintro e w1 ⟨kb, rfl, hK, hkb, hb1⟩
  have h1 := h.below hb1
  have hx := Rd.new1 w1 9 (.string a)
  have hbx : Below w1.heap.size w1 (w1.alloc (.cells #[.string a] 9)) := (Below.refl _ _).alloc (Nat.le_refl _) _
  obtain ⟨W, hW⟩ : ∃ W, W = w1.alloc (.cells #[.string a] 9) := ⟨_, rfl⟩
  rw [← hW] at hx hbx
  have hKW : Kn W kb l := by obtain ⟨al, hM, hL⟩ := hK; exact ⟨al, hM.belowW hbx, hL⟩
  have hsz : W.heap.size = w1.heap.size + 1 := by rw [hW, World.size_alloc]
  have hW1 := h1.below hbx
  have HRc := Lib.hid (reached_calls l kb (some ⟨w1.heap.size, 0, none⟩) [a] 1 W hKW hW1.ps (by rw [hsz]; exact hx) (by simpa using hl) (fun x hx => by rw [List.mem_singleton.1 hx]; exact ha) hW1.par)
  have hb0W := hb1.next hbx
  rw [hW] at HRc
  clear hK hKW hx
  go_wp2_with fail
  refine HRc.out.mono ?_
  rw [← hW]
  rintro e w2 ⟨mt, rfl, hM, hmt, hb2, hml⟩
  have hb02 := hb0W.next hb2
  rw [hsz] at hM
  have HMT := Lib.hid (hmt b)
  clear hmt HRc HKn hW
  rcases hM.look str_law Try.underlying49 (int_zero w2) hkey false with ⟨hno, hrun⟩ | ⟨v2, hmem, hrun⟩
  · have hn : b ∉ mt := fun h => hno (.string b, .int .i64 1) (List.mem_map.2 ⟨b, h, rfl⟩) rfl
    have HN := Lib.hid hn
    clear hno hn
    go_wp2_with fail
    go_ret
    exact ⟨false, rfl, by simp [← HMT.out, HN.out], hb02⟩
  · obtain ⟨rfl, hxm⟩ : v2 = .int .i64 1 ∧ b ∈ mt := by
      obtain ⟨y, hy, he⟩ := List.mem_map.1 hmem
      injection he with h1 h2
      injection h1 with h1
      exact ⟨h2.symm, by rw [← h1]; exact hy⟩
    have HN := Lib.hid hxm
    clear hmem hxm
    go_wp2_with fail
    go_ret
    exact ⟨true, rfl, by simp [← HMT.out, HN.out], hb02⟩
end Go.Proofs.Yteeajmgiamdfdaa
