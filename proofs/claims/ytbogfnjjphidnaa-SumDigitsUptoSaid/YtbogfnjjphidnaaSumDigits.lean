/- The walk of the law SumDigits. Conditions: the second form's bound. -/
import Derived.Test.YtbogfnjjphidnaaSumHex
namespace Go.Dol
theorem dig_range (k : Nat) (hk : k < 16) : (48 ≤ (dig k).toNat ∧ (dig k).toNat ≤ 57) ∨ (97 ≤ (dig k).toNat ∧ (dig k).toNat ≤ 102) := by
  have h : ∀ i : Fin 16, (48 ≤ (dig i.val).toNat ∧ (dig i.val).toNat ≤ 57) ∨ (97 ≤ (dig i.val).toNat ∧ (dig i.val).toNat ≤ 102) := by decide
  exact h ⟨k, hk⟩
theorem hexOf_range : ∀ (l : List UInt8) (x : UInt8), x ∈ hexOf l → (48 ≤ x.toNat ∧ x.toNat ≤ 57) ∨ (97 ≤ x.toNat ∧ x.toNat ≤ 102)
  | [], x, h => by cases h
  | c :: l, x, h => by
    have hc := c.toNat_lt
    rw [hexOf_cons] at h
    rcases List.mem_cons.1 h with rfl | h
    · exact dig_range _ (by omega)
    · rcases List.mem_cons.1 h with rfl | h
      · exact dig_range _ (by omega)
      · exact hexOf_range l x h
theorem unhexL_bad : ∀ l : List UInt8, unhexL (hexOf l ++ [48, 103]) = none
  | [] => by decide
  | c :: l => by
    rw [hexOf_cons, List.cons_append, List.cons_append, unhexL, unhexL_bad l]
    simp
end Go.Dol
theorem Go.Dol.cat_list {s : ByteArray} {h : List UInt8} (e : s = ⟨h.toArray⟩) (t : Array UInt8) : (s ++ (⟨t⟩ : ByteArray)).data.toList = h ++ t.toList := by
  subst e
  show (ByteArray.append _ _).data.toList = _
  simp
theorem Go.Dol.cat_size {s : ByteArray} {h : List UInt8} (e : s = ⟨h.toArray⟩) (t : Array UInt8) : (s ++ (⟨t⟩ : ByteArray)).size = h.length + t.size := by
  rw [← str_len, cat_list e, List.length_append]
  exact congrArg (h.length + ·) Array.length_toList
namespace Go.Proofs.Ytbogfnjjphidnaa
open Go.RowKit Go.Dol
set_option linter.unusedVariables false

set_option maxRecDepth 100000 in
set_option maxHeartbeats 400000 in
theorem sumDigits_walk (id : ByteArray) (w : World) (hi : id.size ≤ 1048576) :
    Calls Try.prog 7 #[.string id] w fun e w' => e = .returned (.bool true) ∧ Below w.heap.size w w' := by
  obtain ⟨h, hh⟩ : ∃ h, h = hexOf id.data.toList := ⟨_, rfl⟩
  have hhl : h.length = 2 * id.size := by rw [hh, hexOf_length, str_len]
  have hhs : h.length ≤ 2097152 := by omega
  have hrange : Hid (∀ x ∈ h, (48 ≤ x.toNat ∧ x.toNat ≤ 57) ∨ (97 ≤ x.toNat ∧ x.toNat ≤ 102)) := by unfold Hid; rw [hh]; exact hexOf_range _
  have hbad : Hid (unhexL (h ++ [48, 103]) = none) := by unfold Hid; rw [hh]; exact unhexL_bad _
  have hodd : Hid (unhexL (h ++ [48]) = none) := by unfold Hid; exact unhexL_odd _ (by rw [List.length_append, hhl, List.length_singleton]; omega)
  have HH := Lib.hid hh
  have HHL := Lib.hid hhl
  clear hh hhl
  go_enter Try.func7, Try.ntmps7
  go_wp2_with fail
  refine (awake_calls w).mono ?_
  rintro e w0 ⟨rfl, hb0⟩
  go_wp2_with fail
  refine (Hex_calls id w0 (by omega)).mono ?_
  rintro e w1 ⟨l1, e1, rfl, hb1⟩
  rw [e1.out, ← HH.out]
  obtain ⟨s, hs⟩ : ∃ s : ByteArray, s = ⟨h.toArray⟩ := ⟨_, rfl⟩
  have hsz : s.size = h.length := by rw [hs]; rfl
  have hget : ∀ (k : Nat) (hk : k < h.length) (h2 : k < s.size), (s[k]'h2) = h[k] := by subst hs; intro k hk h2; rfl
  have HSZ := Lib.hid hsz
  have HG := Lib.hid hget
  have HS := Lib.hid hs
  rw [← hs]
  clear hsz hget hs
  have hb01 := hb0.next hb1
  go_wp2_with fail
  go_loop [5] (fun i => ∃ k : Nat, i = .int .i64 k ∧ k ≤ h.length) (fun i => h.length - (intOf i).toNat)
  case atStart => exact ⟨0, rfl, Nat.zero_le _⟩
  case round =>
    obtain ⟨k, rfl, hk⟩ := hrel
    by_cases hlt : k < h.length
    · have hks : k < s.size := by rw [HSZ.out]; exact hlt
      have hkb : (k : Int) < (s.size : Int) := by omega
      have hxr := hrange.out h[k] (List.getElem_mem hlt)
      obtain ⟨x, hx⟩ : ∃ x, x = (h[k]).toNat := ⟨_, rfl⟩
      have hsx : ∀ h2 : k < s.size, (s[k]'h2).toNat = x := fun h2 => by rw [HG.out k hlt h2, hx]
      rw [← hx] at hxr
      clear hx
      rcases hxr with ⟨a1, a2⟩ | ⟨a1, a2⟩
      · have b1 : ¬ ((x : Int) < 48) := by omega
        have b2 : ¬ ((57 : Int) < (x : Int)) := by omega
        have b3 : decide ((x : Int) < 48) = false := by simp; omega
        have b4 : decide ((57 : Int) < (x : Int)) = false := by simp; omega
        go_wp2_with fail
        exact ⟨⟨k + 1, by go_num, by omega⟩, by simp [intOf]; omega⟩
      · have b1 : ¬ ((x : Int) < 48) := by omega
        have b2 : (57 : Int) < (x : Int) := by omega
        have b3 : decide ((x : Int) < 48) = false := by simp; omega
        have b4 : decide ((57 : Int) < (x : Int)) = true := by simp; omega
        have b5 : ¬ ((x : Int) < 97) := by omega
        have b6 : ¬ ((102 : Int) < (x : Int)) := by omega
        have b7 : decide ((x : Int) < 97) = false := by simp; omega
        have b8 : decide ((102 : Int) < (x : Int)) = false := by simp; omega
        go_wp2_with fail
        exact ⟨⟨k + 1, by go_num, by omega⟩, by simp [intOf]; omega⟩
    · have hkb : ¬ ((k : Int) < (s.size : Int)) := by rw [HSZ.out]; omega
      have hkd : decide (k < s.size) = false := by rw [HSZ.out]; simp; omega
      go_wp2_with fail
      have hc1 : Hid ((s ++ (⟨#[48]⟩ : ByteArray)).data.toList = h ++ [48]) := cat_list HS.out #[48]
      have hc2 : Hid ((s ++ (⟨#[48, 103]⟩ : ByteArray)).data.toList = h ++ [48, 103]) := cat_list HS.out #[48, 103]
      have hz1 : Hid ((s ++ (⟨#[48]⟩ : ByteArray)).size = h.length + 1) := cat_size HS.out #[48]
      have hz2 : Hid ((s ++ (⟨#[48, 103]⟩ : ByteArray)).size = h.length + 2) := cat_size HS.out #[48, 103]
      refine (Unhex_calls _ w1 (by rw [hz1.out]; omega)).mono ?_
      intro e w2 h2
      rw [hc1.out, hodd.out] at h2
      obtain ⟨rfl, hb2⟩ := h2
      go_wp2_with fail
      refine (Unhex_calls _ w2 (by rw [hz2.out]; omega)).mono ?_
      intro e w3 h3
      rw [hc2.out, hbad.out] at h3
      obtain ⟨rfl, hb3⟩ := h3
      have hlen : (s.size : Int) = 2 * (id.size : Int) := by rw [HSZ.out, HHL.out]; omega
      go_wp2_with fail
      go_ret
      exact ⟨rfl, (hb01.next hb2).next hb3⟩
end Go.Proofs.Ytbogfnjjphidnaa
