/- The walks of the layer 'sum', its eighth part: the document's digits. Conditions: bytes that are made fit 2^47. -/
import Derived.Test.YtcefbhmmijmefaaSum7
namespace Go.Proofs.Ytcefbhmmijmefaa
open Go.RowKit Go.Dol
set_option linter.unusedVariables false

theorem str_at {s : ByteArray} {l : List UInt8} (h : l = s.data.toList) {k : Nat} (hk : k < l.length) (h2 : k < s.size) : (s[k]'h2).toNat = (l[k]).toNat := by
  subst h
  rfl

set_option maxRecDepth 100000 in
set_option maxHeartbeats 400000 in
theorem refHex_calls (s : ByteArray) (w : World) (hl : s.size ≤ 70368744177600) :
    Calls Try.prog 34 #[.string s] w fun e w' => ∃ l', Hid (l' = hexOf s.data.toList) ∧ e = .returned (.string ⟨l'.toArray⟩) ∧ Below w.heap.size w w' := by
  obtain ⟨l, hls⟩ : ∃ l, l = s.data.toList := ⟨_, rfl⟩
  have hsz : s.size = l.length := by rw [hls, str_len]
  have HSZ := Lib.hid hsz
  have HLS := Lib.hid hls
  clear hsz hls
  go_enter Try.func34, Try.ntmps34
  go_wp2_with fail
  go_loopw [3, 4] (fun out i wr => HexRel l w out i wr) (fun _ i _ => l.length - (intOf i).toNat)
  case atStart => exact ⟨0, [], none, 0, rfl, rfl, Nat.zero_le _, rfl, ⟨by simp [bc], .inl ⟨rfl, rfl⟩⟩, Below.refl _ _, Nat.le_refl _, by unfold maxLen; omega⟩
  case round =>
    obtain ⟨k, l1, A1, c1, rfl, rfl, hk, e1, ho, hbl, j1, j2⟩ := hrel
    have hs1 := hbl.size
    have e1l : l1.length = 2 * k := by rw [e1.out, hexOf_length, List.length_take]; omega
    by_cases hlt : k < l.length
    · have hkl : k < s.size := by rw [HSZ.out]; exact hlt
      obtain ⟨x, hx⟩ : ∃ x, x = (l[k]).toNat := ⟨_, rfl⟩
      have hx256 : x < 256 := by have := (l[k]).toNat_lt; omega
      have hsx : ∀ h : k < s.size, (s[k]'h).toNat = x := fun h => by rw [hx]; exact str_at HLS.out hlt h
      have hki : (k : Int) < (s.size : Int) := by omega
      have HX := Lib.hid hx
      clear hx
      obtain ⟨y, hy⟩ : ∃ y, y = x / 16 := ⟨_, rfl⟩
      obtain ⟨z, hz⟩ : ∃ z, z = x % 16 := ⟨_, rfl⟩
      have hy16 : y < 16 := by omega
      have hz16 : z < 16 := by omega
      have hd1 := digits_at y hy16
      have hd2 := digits_at z hz16
      have hq : IntKind.u8.wrap ((x : Int) / 16) = (y : Int) := by rw [IntKind.wrap_u8]; omega
      have hm : (x : Int) % 16 = (z : Int) := by omega
      have hm2 : (x : Int).tmod 16 = (z : Int) := by rw [Int.tmod_eq_emod_of_nonneg (by omega)]; omega
      have hyi : (y : Int) < 16 := by omega
      have hzi : (z : Int) < 16 := by omega
      have HY := Lib.hid hy
      have HZ := Lib.hid hz
      clear hy hz
      have hlen2 : l1.length ≤ 140737488355200 := by omega
      have E1L := Lib.hid e1l
      clear e1l
      go_wp2_with fail
      go_region_law ((refine app8r (by rfl) (.tmp 11) (.tmp 22) (by rfl) w.heap.size _ l1.length l1 (by rfl) (World.ownsRow.alloc (w := World.drew wr) ho _) (wr.heap.size + 1) _ 2 2 [dig y, dig z] (by rfl) (Rd.two wr.drew _ _ _) (by omega) (by simp; omega) ?_; intro l' A' c' w' q1 q2 q3 q4 q5 q6))
      all_goals
        go_wp2_with fail
        refine ⟨⟨k + 1, l', A', c', rfl, by go_num, hlt, ?_, q2, hbl.trans (((Below.refl _ _).alloc hs1 _).drew.trans q3), q5, q6⟩, by simp [intOf]; omega⟩
        unfold Hid
        rw [q1.out, e1.out, List.take_succ_eq_append_getElem hlt, hexOf_snoc, HY.out, HZ.out, HX.out]
    · have hkk : k = l.length := by omega
      have HKK := Lib.hid hkk
      have E1L := Lib.hid e1l
      have hb : decide (k < s.size) = false := by simp [HSZ.out]; omega
      have hb2 : ¬ ((k : Int) < (s.size : Int)) := by rw [HSZ.out]; omega
      clear hkk e1l
      go_wp2_with (refine conv8 rfl (.tmp 24) rfl wr.heap.size A1 l1.length c1 l1 rfl (Rd.of_own ho) ?_)
      go_ret
      refine ⟨l1, ?_, rfl, hbl⟩
      unfold Hid
      rw [e1.out, HKK.out, List.take_length, HLS.out]
end Go.Proofs.Ytcefbhmmijmefaa
