/- The walks of the layer 'press', its eleventh part: bytes are made shorter. Conditions: lengths below 2^20. -/
import Derived.Test.YtjikoeokmdnciaaPress10
import Derived.Deep.Onto
namespace Go.Proofs.Ytjikoeokmdnciaa
open Go.RowKit Go.Dol
set_option linter.unusedVariables false
def PressFRel (b : List UInt8) (w : World) (fb : Nat) (A : Option Addr) (c : Nat) (out frm i : Value) (wr : World) : Prop :=
  ∃ (k f : Nat) (l : List UInt8) (A1 : Option Addr) (c1 n : Nat), out = .slice A1 l.length c1 ∧ frm = .int .i64 f ∧ i = .int .i64 k ∧ f ≤ k ∧ k ≤ b.length ∧ Hid (pressL b = l ++ press b k f) ∧
    wr.ownsRow w.heap.size 5 1 (.slice A1 l.length c1) l.length (bc l) ∧ Below w.heap.size w wr ∧ l.length ≤ c1 ∧ c1 ≤ maxLen ∧ n ≤ k ∧ Fin wr w.heap.size fb A b c n

set_option maxRecDepth 100000 in
set_option maxHeartbeats 2000000 in
theorem Press_calls (A : Option Addr) (b : List UInt8) (c : Nat) (w : World) (hr : Rd w w.heap.size 1 A b.length (bc b)) (hb : b.length ≤ 1048576) (hc : b.length ≤ c) :
    Calls Try.prog 27 #[.slice A b.length c] w (RetS w (pressL b)) := by
  go_enter Try.func27, Try.ntmps27
  have hmm := @run_makeMap Try.prog
  go_wp2_with fail
  clear hmm
  have hm0 : MapL Try.prog 59 (w.alloc (.map #[] 0)) w.heap.size [] := MapL.new w
  have hz0 : (w.alloc (.map #[] 0)).heap.size = w.heap.size + 1 := by simp
  obtain ⟨v0, hv0⟩ : ∃ v, v = w.alloc (.map #[] 0) := ⟨_, rfl⟩
  have hbel0 : Below w.heap.size w v0 := by rw [hv0]; exact (Below.refl _ w).alloc (Nat.le_refl _) _
  rw [← hv0] at hm0 hz0 ⊢
  have hB0 := Blk.new v0 47 [.slice A b.length c, .map (some w.heap.size), .int .i64 0]
  have hm1 := hm0.alloc (.cells #[.slice A b.length c, .map (some w.heap.size), .int .i64 0] 47)
  have hbel1 := hbel0.alloc (B := w.heap.size) (by omega) (.cells #[.slice A b.length c, .map (some w.heap.size), .int .i64 0] 47)
  obtain ⟨v1, hv1⟩ : ∃ v, v = v0.alloc (.cells #[.slice A b.length c, .map (some w.heap.size), .int .i64 0] 47) := ⟨_, rfl⟩
  obtain ⟨fb, hfb⟩ : ∃ fb, fb = w.heap.size + 1 := ⟨_, rfl⟩
  rw [hz0] at hB0
  have hF1 : Fin v1 w.heap.size fb A b c 0 := ⟨w.heap.size, [], by rw [hv1, hfb]; exact hB0, by rw [hv1]; exact hm1, ⟨by simp, fun _ _ _ => by simp [posOf], .nil⟩, by omega, Nat.le_refl _⟩
  rw [← hv1] at hbel1 ⊢
  rw [← hfb]
  have HF1 := Lib.hid hF1
  have hs1 := hbel1.size
  clear hF1 hv0 hm0 hz0 hB0 hm1 hbel0 hfb hv1
  refine (PutNum_calls none [] 0 _ v1 Rd.nil (by decide)).mono ?_
  rintro e w1 ⟨l1, A1, c1, e1, rfl, ho1, hb1, i1, i2⟩
  have HF2 : Hid (Fin w1 w.heap.size fb A b c 0) := HF1.out.belowW hb1
  have hbel2 := hbel1.trans (hb1.mono hs1)
  have ho2 := ho1.mono hs1
  clear HF1 hbel1 ho1 hb1
  have hstart : Hid (pressL b = l1 ++ press b 0 0) := by
    unfold Hid pressL
    rw [e1.out, List.nil_append, clampN_of (by omega)]
  clear e1
  go_wp2_with fail
  go_loopw [4, 5, 6] (fun out f i wr => PressFRel b w fb A c out f i wr) (fun _ _ i _ => b.length - (intOf i).toNat)
  case atStart => exact ⟨0, 0, l1, A1, c1, 0, rfl, rfl, rfl, Nat.le_refl _, Nat.zero_le _, hstart, ho2, hbel2, i1, i2, Nat.le_refl _, HF2.out⟩
  case round =>
    clear ho2 hbel2 hstart i1 i2 HF2 hs1
    obtain ⟨k, f, l, A1, c1, n0, rfl, rfl, rfl, hfk, hk, heq, hro, hbel, i1, i2, hn0, hfin0⟩ := hrel
    have HFI := Lib.hid hfin0
    clear hfin0
    have hlb := pressL_long hb heq.out
    have hs := hbel.size
    have hrb := (hr.belowW hbel (Nat.le_refl _)).more hs
    by_cases hlt : k < b.length
    · have hki : (k : Int) < (b.length : Int) := by omega
      go_wp2_with fail
      refine (longest_calls w.heap.size fb A b c n0 k wr HFI.out (hr.below hbel) hb hc hn0 hk).mono ?_
      rintro e w2 ⟨rfl, ⟨n1, hn1, hfin1⟩, hbk⟩
      have HF2 := Lib.hid hfin1
      have hro2 := hbk.own hro
      have hbel2 : Below w.heap.size w w2 := hbel.trans hbk.below
      have hrb2 : Rd w2 w2.heap.size 1 A b.length (bc b) := (hr.below hbel2).more hbel2.size
      clear hfin1 HFI hbk hro hrb hbel hs
      have hs := hbel2.size
      have hll := longest_le b k
      have hsp := longest_spec (b := b) (i := k)
      have hlt4 := lng_lt b k
      have hge4 := lng_ge (b := b) (i := k)
      obtain ⟨n, hn⟩ : ∃ n, n = (lng b k).1 := ⟨_, rfl⟩
      obtain ⟨d, hd⟩ : ∃ d, d = (lng b k).2 := ⟨_, rfl⟩
      rw [← hn] at hlt4 hge4
      rw [← hn, ← hd]
      by_cases h4 : n < 4
      · have h4i : (n : Int) < 4 := by omega
        have heq' : Hid (pressL b = l ++ press b (k + 1) f) := by unfold Hid; rw [heq.out, press_next hlt (hlt4.1 h4)]
        have HN := Lib.hid hn
        have HD := Lib.hid hd
        clear hn hd hsp hlt4 hge4 hll
        go_wp2_with fail
        exact ⟨⟨k + 1, f, l, A1, c1, n1, rfl, rfl, by go_num, by omega, by omega, heq', hro2, hbel2, i1, i2, by omega, HF2.out⟩, by simp [intOf]; omega⟩
      · have heqL := hge4 (by omega)
        rw [heqL] at hn hd
        rw [← hn, ← hd] at hsp
        rw [← hn] at hll
        have hsp := hsp (by omega)
        have h4i : ¬ ((n : Int) < 4) := by omega
        have heq' : Hid (pressL b = l ++ (runB ((b.drop f).take (k - f)) ++ (num (2 * (n - 4) + 1) ++ (num d ++ press b (k + n) (k + n))))) := by unfold Hid; rw [heq.out, press_copy hlt (by rw [← hn]; omega), ← hn, ← hd]
        have hcut := hrb2.cut (lo := f) (hi := k) (cap := c) hfk hk hc
        rw [if_neg (by omega), Nat.mul_one, Nat.mul_one, bc_drop, bc_take] at hcut
        have hd1 := hsp.1
        have hd2 := hsp.2.2.1
        have hn2 := hsp.2.2.2.1
        have hn3 := hsp.2.2.2.2.1
        have HN := Lib.hid hn
        have HD := Lib.hid hd
        clear hn hd hsp heq hlt4 hge4 heqL
        have hfi : (f : Int) ≤ (k : Int) := by omega
        have hkc : (k : Int) ≤ (c : Int) := by omega
        have hcf : ¬ (c = f) := by omega
        go_wp2_with fail
        refine (run_calls A1 l c1 _ ((b.drop f).take (k - f)) (k - f) _ w2 (by rw [List.length_take, List.length_drop]; omega) (Rd.of_own hro2) i1 i2 hcut (by omega)).mono ?_
        rintro e w3 ⟨l3, A3, c3, e3, rfl, hr3, hb3, j1, j2⟩
        go_wp2_with fail
        have hl3 : l3.length ≤ 2359315 := by
          have := (runB_cost ((b.drop f).take (k - f)) (by rw [List.length_take, List.length_drop]; omega)).2.2.2
          rw [List.length_take, List.length_drop] at this
          rw [e3.out, List.length_append]
          omega
        have hcl1 : Hid (clampN (2 * ((n : Int) - 4) + 1) = 2 * (n - 4) + 1) := by unfold Hid clampN; omega
        have hcl2 : Hid (clampN (d : Int) = d) := clampN_of (by omega)
        refine (PutNum_calls A3 l3 c3 _ w3 hr3 (by omega)).mono ?_
        rintro e w4 ⟨l4, A4, c4, e4, rfl, ho4, hb4, j3, j4⟩
        have hl4 : l4.length ≤ 2359324 := by
          have := num_length_le 8 (2 * (n - 4) + 1) (by omega)
          rw [e4.out, hcl1.out, List.length_append]
          omega
        go_wp2_with fail
        refine (PutNum_calls A4 l4 c4 _ w4 (Rd.of_own ho4) (by omega)).mono ?_
        rintro e w5 ⟨l5, A5, c5, e5, rfl, ho5, hb5, j5, j6⟩
        have hfin : Hid (pressL b = l5 ++ press b (k + n) (k + n)) := by
          unfold Hid
          rw [e5.out, e4.out, e3.out, hcl1.out, hcl2.out, heq'.out]
          simp only [List.append_assoc]
        have hbel5 := ((hbel2.trans (hb3.mono hs)).trans (hb4.mono (Nat.le_trans hs hb3.size))).trans (hb5.mono (Nat.le_trans (Nat.le_trans hs hb3.size) hb4.size))
        go_wp2_with fail
        exact ⟨⟨k + n, k + n, l5, A5, c5, n1, rfl, by go_num, by go_num, Nat.le_refl _, hn3, hfin, ho5.mono (Nat.le_trans (Nat.le_trans hs hb3.size) hb4.size), hbel5, j5, j6, by omega, ((HF2.out.belowW hb3).belowW hb4).belowW hb5⟩, by simp [intOf]; omega⟩
    · have hki : ¬ ((k : Int) < (b.length : Int)) := by omega
      have htail := hrb.tail (k := f) (cap := c) (by omega) hc
      have hfin : Hid (pressL b = l ++ runB (b.drop f)) := by unfold Hid; rw [heq.out, press_end (by omega)]
      have hfi : (f : Int) ≤ (b.length : Int) := by omega
      by_cases hcf : c = f
      · rw [if_pos hcf] at htail
        have HC := Lib.hid hcf
        go_wp2_with fail
        refine (run_calls A1 l c1 _ (b.drop f) (b.length - f) _ wr (by rw [List.length_drop]) (Rd.of_own hro) i1 i2 htail (by omega)).mono ?_
        rintro e w3 ⟨l3, A3, c3, e3, rfl, hr3, hb3, j1, j2⟩
        go_wp2_with fail
        go_ret
        exact ⟨l3, A3, c3, by unfold Hid; rw [e3.out, hfin.out], rfl, hr3, hbel.trans (hb3.mono hs), j1, j2⟩
      · rw [if_neg hcf] at htail
        have HC := Lib.hid hcf
        go_wp2_with fail
        refine (run_calls A1 l c1 _ (b.drop f) (b.length - f) _ wr (by rw [List.length_drop]) (Rd.of_own hro) i1 i2 htail (by omega)).mono ?_
        rintro e w3 ⟨l3, A3, c3, e3, rfl, hr3, hb3, j1, j2⟩
        go_wp2_with fail
        go_ret
        exact ⟨l3, A3, c3, by unfold Hid; rw [e3.out, hfin.out], rfl, hr3, hbel.trans (hb3.mono hs), j1, j2⟩
end Go.Proofs.Ytjikoeokmdnciaa
