/- The walks of the layer 'sum', its tenth part: bytes of digits, as the document says. Conditions: bytes that are made fit 2^47. -/
import Derived.Test.YtbogfnjjphidnaaSum9
namespace Go.Dol
open Go.RowKit
def unhexL : List UInt8 → Option (List UInt8)
  | [] => some []
  | [_] => none
  | a :: b :: t => if digV a.toNat < 0 ∨ digV b.toNat < 0 then none else (unhexL t).map (UInt8.ofNat (16 * (digV a.toNat).toNat + (digV b.toNat).toNat) :: ·)
def RetHex (w : World) (r : Option (List UInt8)) (e : Ending) (w' : World) : Prop :=
  match r with
  | none => e = .returned (.tuple #[.string ⟨#[]⟩, .int .i64 1]) ∧ Below w.heap.size w w'
  | some q => ∃ q', Hid (q' = q) ∧ e = .returned (.tuple #[.string ⟨q'.toArray⟩, .int .i64 0]) ∧ Below w.heap.size w w'
theorem digV_lt (x : Nat) : digV x < 16 := by unfold digV; split <;> (try split) <;> omega
theorem drop_two {l : List UInt8} {k : Nat} (h : k + 1 < l.length) : l.drop k = l[k] :: l[k + 1] :: l.drop (k + 2) := by
  rw [List.drop_eq_getElem_cons (by omega), List.drop_eq_getElem_cons h]
def UnhexRel (l : List UInt8) (w1 : World) (T : TypeId) (out i : Value) (wr : World) : Prop :=
  ∃ (k : Nat) (l1 : List UInt8) (A : Option Addr) (c : Nat), out = .slice A l1.length c ∧ i = .int .i64 k ∧ k ≤ l.length ∧ k % 2 = 0 ∧ 2 * l1.length = k ∧ Hid (unhexL l = (unhexL (l.drop k)).map (l1 ++ ·)) ∧ wr.ownsRow w1.heap.size T 1 (.slice A l1.length c) l1.length (bc l1) ∧ Below w1.heap.size w1 wr ∧ l1.length ≤ c ∧ c ≤ maxLen
end Go.Dol
namespace Go.Proofs.Ytbogfnjjphidnaa
open Go.RowKit Go.Dol
set_option linter.unusedVariables false

set_option maxRecDepth 100000 in
set_option maxHeartbeats 400000 in
theorem refUnhex_calls (s : ByteArray) (w : World) (hl : s.size ≤ 140737488355200) :
    Calls Try.prog 12 #[.string s] w (RetHex w (unhexL s.data.toList)) := by
  obtain ⟨l, hls⟩ : ∃ l, l = s.data.toList := ⟨_, rfl⟩
  have hsz : s.size = l.length := by rw [hls, str_len]
  rw [← hls]
  have HSZ := Lib.hid hsz
  have HLS := Lib.hid hls
  clear hsz hls
  go_enter Try.func12, Try.ntmps12
  go_wp2_with fail
  go_loopw [4, 5, 6, 7] (fun out i _ _ wr => UnhexRel l w 5 out i wr) (fun _ i _ _ _ => l.length - (intOf i).toNat)
  case atStart => exact ⟨0, [], none, 0, rfl, rfl, Nat.zero_le _, rfl, rfl, by unfold Hid; simp, ⟨by simp [bc], .inl ⟨rfl, rfl⟩⟩, Below.refl _ _, Nat.le_refl _, by unfold maxLen; omega⟩
  case round =>
    obtain ⟨k, l1, A1, c1, rfl, rfl, hk, hk2, hk1, e1, ho, hbl, j1, j2⟩ := hrel
    have hs1 := hbl.size
    have HK1 := Lib.hid hk1
    have HK2 := Lib.hid hk2
    have hl1b : l1.length ≤ 140737488355200 := by have := HSZ.out; omega
    clear hk1 hk2
    by_cases hlt : k + 1 < l.length
    · have hkl : k < s.size := by rw [HSZ.out]; omega
      have hkl1 : k + 1 < s.size := by rw [HSZ.out]; omega
      have hlt0 : k < l.length := by omega
      have hki : (k : Int) < (s.size : Int) := by omega
      have hki1 : (k : Int) + 1 < (s.size : Int) := by omega
      obtain ⟨x, hx⟩ : ∃ x, x = (l[k]).toNat := ⟨_, rfl⟩
      obtain ⟨y, hy⟩ : ∃ y, y = (l[k + 1]).toNat := ⟨_, rfl⟩
      have hx256 : x < 256 := by have := (l[k]).toNat_lt; omega
      have hy256 : y < 256 := by have := (l[k + 1]).toNat_lt; omega
      have hsx : ∀ h : k < s.size, (s[k]'h).toNat = x := fun h => by rw [hx]; exact str_at HLS.out hlt0 h
      have hsy : ∀ h : k + 1 < s.size, (s[k + 1]'h).toNat = y := fun h => by rw [hy]; exact str_at HLS.out hlt h
      have HX := Lib.hid hx
      have HY := Lib.hid hy
      clear hx hy
      go_wp2_with fail
      refine (digit_calls x hx256 wr).mono ?_
      rintro e w2 ⟨rfl, rfl⟩
      go_wp2_with fail
      refine (digit_calls y hy256 wr).mono ?_
      rintro e w2 ⟨rfl, rfl⟩
      have hdrop := drop_two hlt
      have hstep : Hid (unhexL (l.drop k) = if digV x < 0 ∨ digV y < 0 then none else (unhexL (l.drop (k + 2))).map (UInt8.ofNat (16 * (digV x).toNat + (digV y).toNat) :: ·)) := by
        unfold Hid
        rw [hdrop, unhexL, HX.out, HY.out]
      have hpx := digV_lt x
      have hpy := digV_lt y
      obtain ⟨p, hp⟩ : ∃ p, p = digV x := ⟨_, rfl⟩
      obtain ⟨q, hq⟩ : ∃ q, q = digV y := ⟨_, rfl⟩
      rw [← hp, ← hq] at hstep
      rw [← hp] at hpx ⊢
      rw [← hq] at hpy ⊢
      clear hp hq hdrop hsx hsy
      by_cases hbad : p < 0 ∨ q < 0
      · have hnone : Hid (unhexL l = none) := by unfold Hid; rw [e1.out, hstep.out, if_pos hbad]; rfl
        rcases (by omega : p < 0 ∨ (0 ≤ p ∧ q < 0)) with hp | ⟨hp, hq⟩
        · go_wp2_with fail
          go_ret2
          rw [hnone.out]
          exact ⟨rfl, hbl⟩
        · go_wp2_with fail
          go_ret2
          rw [hnone.out]
          exact ⟨rfl, hbl⟩
      · have hp : 0 ≤ p := by omega
        have hq : 0 ≤ q := by omega
        obtain ⟨p', rfl⟩ := Int.eq_ofNat_of_zero_le hp
        obtain ⟨q', rfl⟩ := Int.eq_ofNat_of_zero_le hq
        have hp16 : p' < 16 := by omega
        have hq16 : q' < 16 := by omega
        obtain ⟨m, hm⟩ : ∃ m, m = 16 * p' + q' := ⟨_, rfl⟩
        have hmi : IntKind.u8.wrap (16 * (p' : Int) + (q' : Int)) = (m : Int) := by rw [IntKind.wrap_u8]; omega
        have hm256 : m < 256 := by omega
        have HM := Lib.hid hm
        rw [if_neg hbad] at hstep
        clear hm hbad hpx hpy hp hq
        go_wp2_with (at_builtin; refine push8 rfl (.tmp 30) (.tmp 36) rfl w.heap.size _ l1.length l1 rfl ho rfl (by omega) (by omega) (by omega) hs1 ?_)
        intro d l2 A2 c2 w2 ed e2 ho2 hb2 _ _ j3 j4
        have h2l : l2.length = l1.length + 1 := by rw [e2.out]; simp
        have H2L := Lib.hid h2l
        clear h2l
        go_wp2_with fail
        refine ⟨⟨k + 2, l2, A2, c2, rfl, by go_num, by omega, by have := HK2.out; omega, by rw [H2L.out]; have := HK1.out; omega, ?_, ho2, hbl.trans hb2, j3, j4⟩, by simp [intOf]; omega⟩
        have hd : d = UInt8.ofNat m := byte_of ed rfl
        unfold Hid
        rw [e1.out, hstep.out, Option.map_map, e2.out, hd, HM.out]
        congr 1
        funext z
        simp
    · have hsmall : l.length ≤ k + 1 := by omega
      have hkb : k ≤ 140737488355200 := by have := HSZ.out; omega
      have hnk : ¬ ((k : Int) + 1 < (s.size : Int)) := by have := HSZ.out; omega
      by_cases hodd : l.length = k + 1
      · have hd1 : unhexL (l.drop k) = none := by
          rw [List.drop_eq_getElem_cons (by omega), List.drop_eq_nil_of_le (by omega)]
          rfl
        have hnone : Hid (unhexL l = none) := by unfold Hid; rw [e1.out, hd1]; rfl
        have hmod : (s.size : Int) % 2 = 1 := by have := HSZ.out; have := HK2.out; omega
        have hmod2 : (s.size : Int).tmod 2 = 1 := by rw [Int.tmod_eq_emod_of_nonneg (by omega)]; exact hmod
        have HO := Lib.hid hodd
        clear hodd hd1
        go_wp2_with fail
        go_ret2
        rw [hnone.out]
        exact ⟨rfl, hbl⟩
      · have hkl : l.length = k := by omega
        have hd1 : unhexL (l.drop k) = some [] := by
          rw [List.drop_eq_nil_of_le (by omega)]
          rfl
        have hsome : Hid (unhexL l = some l1) := by unfold Hid; rw [e1.out, hd1]; simp
        have hmod : (s.size : Int) % 2 = 0 := by have := HSZ.out; have := HK2.out; omega
        have hmod2 : (s.size : Int).tmod 2 = 0 := by rw [Int.tmod_eq_emod_of_nonneg (by omega)]; exact hmod
        have HO := Lib.hid hkl
        clear hodd hd1 hkl
        go_wp2_with (refine conv8 rfl (.tmp 42) rfl wr.heap.size A1 l1.length c1 l1 rfl (Rd.of_own ho) ?_)
        go_ret2
        rw [hsome.out]
        exact ⟨l1, rfl, rfl, hbl⟩
end Go.Proofs.Ytbogfnjjphidnaa
