/- The head of the statements on 'sum': what is awake. Conditions: none. -/
import Derived.Test.YtbogfnjjphidnaaSum12
namespace Go.Proofs.Ytbogfnjjphidnaa
open Go.RowKit Go.Dol
set_option linter.unusedVariables false

set_option maxRecDepth 100000 in
set_option maxHeartbeats 400000 in
theorem awake_calls (w : World) : Calls Try.prog 8 #[] w fun e w' => e = .returned (.bool true) ∧ Below w.heap.size w w' := by
  have u1 : unhexL (⟨#[48, 70]⟩ : ByteArray).data.toList = none := by decide +kernel
  have u2 : unhexL (⟨#[48]⟩ : ByteArray).data.toList = none := by decide +kernel
  have u3 : unhexL (⟨#[48, 48, 48, 102, 97, 48]⟩ : ByteArray).data.toList = some [0, 15, 160] := by decide +kernel
  have u4 : hexOf (⟨#[0, 15, 160]⟩ : ByteArray).data.toList = [48, 48, 48, 102, 97, 48] := by decide +kernel
  have U1 := Lib.hid u1
  have U2 := Lib.hid u2
  have U3 := Lib.hid u3
  have U4 := Lib.hid u4
  clear u1 u2 u3 u4
  go_enter Try.func8, Try.ntmps8
  go_wp2_with fail
  refine (Unhex_calls _ w (by decide)).mono ?_
  intro e w1 h1
  rw [U1.out] at h1
  obtain ⟨rfl, hb1⟩ := h1
  go_wp2_with fail
  refine (Unhex_calls _ w1 (by decide)).mono ?_
  intro e w2 h2
  rw [U2.out] at h2
  obtain ⟨rfl, hb2⟩ := h2
  go_wp2_with fail
  refine (Unhex_calls _ w2 (by decide)).mono ?_
  intro e w3 h3
  rw [U3.out] at h3
  obtain ⟨q3, hq3, rfl, hb3⟩ := h3
  rw [hq3.out]
  go_wp2_with fail
  refine (Hex_calls _ w3 (by decide)).mono ?_
  rintro e w4 ⟨q4, hq4, rfl, hb4⟩
  rw [hq4.out, U4.out]
  go_wp2_with fail
  refine (Sum_calls none [] 0 w4 ⟨by simp [bc], fun h => by simp at h⟩ (by simp)).mono ?_
  rintro e w5 ⟨q5, hq5, rfl, hb5⟩
  have hl5 : q5.length = 32 := by rw [hq5.out]; exact sumOf_length []
  go_wp2_with fail
  go_ret
  have b2 := hb1.trans (hb2.mono hb1.size)
  have b3 := b2.trans (hb3.mono b2.size)
  have b4 := b3.trans (hb4.mono b3.size)
  exact ⟨rfl, b4.trans (hb5.mono b4.size)⟩
end Go.Proofs.Ytbogfnjjphidnaa
