/- The walk of the law SumHex. Conditions: the second form's bound. -/
import Derived.Test.YtbogfnjjphidnaaSumAwake
namespace Go.Dol
theorem digV_cases : ∀ i : Fin 256, digV i.val < 0 ∨ ∃ j : Fin 16, digV i.val = j.val ∧ (dig j.val).toNat = i.val := by decide +kernel
theorem dig_digV (c : UInt8) (h : 0 ≤ digV c.toNat) : (digV c.toNat).toNat < 16 ∧ dig (digV c.toNat).toNat = c := by
  rcases digV_cases ⟨c.toNat, c.toNat_lt⟩ with h1 | ⟨j, h1, h2⟩
  · simp only at h1
    omega
  · simp only at h1 h2
    have : (digV c.toNat).toNat = j.val := by omega
    rw [this]
    exact ⟨j.isLt, UInt8.toNat_inj.1 h2⟩
theorem hexOf_cons (c : UInt8) (l : List UInt8) : hexOf (c :: l) = dig (c.toNat / 16) :: dig (c.toNat % 16) :: hexOf l := rfl
theorem unhex_hex : ∀ l : List UInt8, unhexL (hexOf l) = some l
  | [] => rfl
  | c :: l => by
    have h := c.toNat_lt
    have h1 := digV_dig (c.toNat / 16) (by omega)
    have h2 := digV_dig (c.toNat % 16) (by omega)
    rw [hexOf_cons, unhexL, h1, h2, if_neg (by omega), unhex_hex l]
    simp only [Option.map_some, Option.some.injEq, List.cons.injEq, and_true]
    have : 16 * ((c.toNat / 16 : Nat) : Int).toNat + ((c.toNat % 16 : Nat) : Int).toNat = c.toNat := by omega
    rw [this]
    simp
theorem hex_unhex : ∀ (l q : List UInt8), unhexL l = some q → hexOf q = l
  | [], q, h => by
    rw [unhexL] at h
    injection h with h
    subst h
    rfl
  | [_], q, h => by cases h
  | a :: b :: t, q, h => by
    rw [unhexL] at h
    split at h
    · cases h
    · rename_i hn
      obtain ⟨z, hz, rfl⟩ := Option.map_eq_some_iff.1 h
      have ha := dig_digV a (by omega)
      have hb := dig_digV b (by omega)
      have ih := hex_unhex t z hz
      rw [hexOf_cons, ih]
      have e : (UInt8.ofNat (16 * (digV a.toNat).toNat + (digV b.toNat).toNat)).toNat = 16 * (digV a.toNat).toNat + (digV b.toNat).toNat := by
        rw [UInt8.toNat_ofNat']
        omega
      rw [e]
      have e1 : (16 * (digV a.toNat).toNat + (digV b.toNat).toNat) / 16 = (digV a.toNat).toNat := by omega
      have e2 : (16 * (digV a.toNat).toNat + (digV b.toNat).toNat) % 16 = (digV b.toNat).toNat := by omega
      rw [e1, e2, ha.2, hb.2]
end Go.Dol
theorem _root_.Go.RowKit.Below.next {a b c : Go.World} (h : Go.RowKit.Below a.heap.size a b) (h2 : Go.RowKit.Below b.heap.size b c) : Go.RowKit.Below a.heap.size a c := h.trans (h2.mono h.size)
namespace Go.Proofs.Ytbogfnjjphidnaa
open Go.RowKit Go.Dol
set_option linter.unusedVariables false

theorem unhexL_length : ∀ (l q : List UInt8), unhexL l = some q → 2 * q.length = l.length := by
  intro l q h
  rw [← hex_unhex l q h, hexOf_length]

theorem back_str (s : ByteArray) : (⟨s.data.toList.toArray⟩ : ByteArray) = s := by cases s; simp

set_option maxRecDepth 100000 in
set_option maxHeartbeats 400000 in
theorem sumHex_walk (id s : ByteArray) (w : World) (hi : id.size ≤ 1048576) (hs : s.size ≤ 1048576) :
    Calls Try.prog 4 #[.string id, .string s] w fun e w' => e = .returned (.bool true) ∧ Below w.heap.size w w' := by
  obtain ⟨r, hr⟩ : ∃ r, r = unhexL s.data.toList := ⟨_, rfl⟩
  obtain ⟨h, hh⟩ : ∃ h, h = hexOf id.data.toList := ⟨_, rfl⟩
  have hback : Hid (unhexL (⟨h.toArray⟩ : ByteArray).data.toList = some id.data.toList) := by
    unfold Hid
    rw [hh]
    exact unhex_hex _
  have hhl : h.length = 2 * id.size := by rw [hh, hexOf_length, str_len]
  have hhs : (⟨h.toArray⟩ : ByteArray).size ≤ 140737488355200 := by
    show h.toArray.size ≤ _
    rw [List.size_toArray]
    omega
  have HR := Lib.hid hr
  have HH := Lib.hid hh
  clear hr hh hhl
  go_enter Try.func4, Try.ntmps4
  go_wp2_with fail
  refine (awake_calls w).mono ?_
  rintro e w0 ⟨rfl, hb0⟩
  go_wp2_with fail
  refine (Unhex_calls s w0 (by omega)).mono ?_
  intro e w1 h1
  rw [← HR.out] at h1
  rcases hrr : r with _ | q
  · rw [hrr] at h1
    obtain ⟨rfl, hb1⟩ := h1
    have HRR := Lib.hid hrr
    clear hrr
    go_wp2_with fail
    refine (refUnhex_calls s w1 (by omega)).mono ?_
    intro e w2 h2
    rw [← HR.out, HRR.out] at h2
    obtain ⟨rfl, hb2⟩ := h2
    go_wp2_with fail
    refine (Hex_calls id w2 (by omega)).mono ?_
    rintro e w3 ⟨l3, e3, rfl, hb3⟩
    rw [e3.out, ← HH.out]
    go_wp2_with fail
    refine (Unhex_calls _ w3 hhs).mono ?_
    intro e w4 h4
    rw [hback.out] at h4
    obtain ⟨q4, e4, rfl, hb4⟩ := h4
    rw [e4.out, back_str]
    go_wp2_with fail
    refine (Hex_calls id w4 (by omega)).mono ?_
    rintro e w5 ⟨l5, e5, rfl, hb5⟩
    rw [e5.out, ← HH.out]
    go_wp2_with fail
    refine (refHex_calls id w5 (by omega)).mono ?_
    rintro e w6 ⟨l6, e6, rfl, hb6⟩
    rw [e6.out, ← HH.out]
    go_wp2_with fail
    go_ret
    exact ⟨rfl, ((((((hb0.next hb1).next hb2).next hb3).next hb4).next hb5).next hb6)⟩
  · rw [hrr] at h1
    obtain ⟨q1, e1, rfl, hb1⟩ := h1
    have hq : Hid ((⟨(hexOf (⟨q.toArray⟩ : ByteArray).data.toList).toArray⟩ : ByteArray) = s) := by
      unfold Hid
      rw [HR.out] at hrr
      have h2 := hex_unhex _ _ hrr
      show (⟨(hexOf q).toArray⟩ : ByteArray) = s
      rw [h2]
    have hqs : Hid ((⟨q.toArray⟩ : ByteArray).size ≤ 70368744177600) := by
      have h2 := unhexL_length _ _ (HR.out ▸ hrr)
      rw [str_len] at h2
      show q.toArray.size ≤ _
      rw [List.size_toArray]
      omega
    rw [e1.out]
    have HRR := Lib.hid hrr
    clear hrr
    go_wp2_with fail
    refine (refUnhex_calls s w1 (by omega)).mono ?_
    intro e w2 h2
    rw [← HR.out, HRR.out] at h2
    obtain ⟨q2, e2, rfl, hb2⟩ := h2
    rw [e2.out]
    go_wp2_with fail
    refine (Hex_calls id w2 (by omega)).mono ?_
    rintro e w3 ⟨l3, e3, rfl, hb3⟩
    rw [e3.out, ← HH.out]
    go_wp2_with fail
    refine (Unhex_calls _ w3 hhs).mono ?_
    intro e w4 h4
    rw [hback.out] at h4
    obtain ⟨q4, e4, rfl, hb4⟩ := h4
    rw [e4.out, back_str]
    go_wp2_with fail
    refine (Hex_calls id w4 (by omega)).mono ?_
    rintro e w5 ⟨l5, e5, rfl, hb5⟩
    rw [e5.out, ← HH.out]
    go_wp2_with fail
    refine (refHex_calls id w5 (by omega)).mono ?_
    rintro e w6 ⟨l6, e6, rfl, hb6⟩
    rw [e6.out, ← HH.out]
    go_wp2_with fail
    refine (Hex_calls _ w6 hqs.out).mono ?_
    rintro e w7 ⟨l7, e7, rfl, hb7⟩
    rw [e7.out, hq.out]
    go_wp2_with fail
    go_ret
    exact ⟨rfl, (((((((hb0.next hb1).next hb2).next hb3).next hb4).next hb5).next hb6).next hb7)⟩
end Go.Proofs.Ytbogfnjjphidnaa
