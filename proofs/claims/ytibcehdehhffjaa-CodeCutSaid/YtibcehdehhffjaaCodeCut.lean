/- The walk of the law CodeCut. Conditions: the form's reach. -/
import Derived.Test.YtibcehdehhffjaaCodeN
namespace Go.Proofs.Ytibcehdehhffjaa
open Go.RowKit Go.Dol
set_option linter.unusedVariables false

set_option maxRecDepth 100000 in
set_option maxHeartbeats 400000 in
theorem codeCut_walk (n : Int) (s : ByteArray) (at' : Int) (w : World) (hn : (Lit.int .i64 n).wf = true) (hs : s.size ≤ 140737488351232) (ha : (Lit.int .i64 at').wf = true) :
    Calls Try.prog 6 #[.int .i64 n, .string s, .int .i64 at'] w fun e w' => e = .returned (.bool true) ∧ Below w.heap.size w w' := by
  clear hn ha
  obtain ⟨r1, hr1, hf1⟩ := i64_low at' 63 (by omega)
  obtain ⟨r2, hr2, hf2⟩ := i64_low at' 65535 (by omega)
  replace hf1 : bits .and .i64 at' 63 = (r1 : Int) := hf1
  replace hf2 : bits .and .i64 at' 65535 = (r2 : Int) := hf2
  have es := Lib.hid (str_len s)
  have hsm : Hid (s.size ≤ mostNum) := by unfold Hid mostNum; omega
  go_enter Try.func6, Try.ntmps6
  go_wp2_with fail
  refine (awake_calls w).mono ?_
  rintro e w0 ⟨rfl, hb0⟩
  go_wp2_with fail
  refine (PutNum_calls none [] 0 _ w0 Rd.nil (by decide)).mono ?_
  rintro e w1 ⟨l1, A1, c1, e1, rfl, h1, hb1, h2, h3⟩
  go_wp2_with fail
  refine (PutText_calls none [] 0 s w1 Rd.nil (by simp; omega)).mono ?_
  rintro e w2 ⟨l2, A2, c2, e2, rfl, g1, hb2, g2, g3⟩
  have hl9 : l1.length ≤ 9 := by rw [e1.out]; exact num_length_le 8 _ (by have := clampN_le n; unfold mostNum at this; omega)
  have hlp : 0 < l1.length := by rw [e1.out]; exact num_pos _
  have hl2 : l2.length ≤ s.size + 9 := by
    have := num_length_le 8 s.size (by omega)
    rw [e2.out, List.nil_append, text, es.out, List.length_append, es.out]
    omega
  have hl2p : 0 < l2.length := by
    rw [e2.out, List.nil_append, text, List.length_append]
    have := num_pos s.data.toList.length
    omega
  obtain ⟨p1, hp1⟩ : ∃ p1, p1 = r1 % l1.length := ⟨_, rfl⟩
  obtain ⟨p2, hp2⟩ : ∃ p2, p2 = r2 % l2.length := ⟨_, rfl⟩
  have hp1l : p1 < l1.length := by rw [hp1]; exact Nat.mod_lt _ hlp
  have hp2l : p2 < l2.length := by rw [hp2]; exact Nat.mod_lt _ hl2p
  have hpf1 : (r1 : Int) % (l1.length : Int) = (p1 : Int) := by rw [hp1]; simp
  have hpf2 : (r2 : Int) % (l2.length : Int) = (p2 : Int) := by rw [hp2]; simp
  have hz1 : ((l1.length : Int) == 0) = false := beq_eq_false_iff_ne.2 (by omega)
  have hz2 : ((l2.length : Int) == 0) = false := beq_eq_false_iff_ne.2 (by omega)
  have hq1 : Hid (takeNum (l1.take p1) = none) := by
    have he := e1.out
    rw [List.nil_append] at he
    unfold Hid
    rw [he]
    exact takeNum_cut (clampN_le n) (by rw [← he]; exact hp1l)
  have hq2 : Hid (takeText (l2.take p2) (s.size : Nat) = none) := by
    have he := e2.out
    rw [List.nil_append] at he
    have := takeText_cut (l := s.data.toList) (p := p2) (by rw [es.out]; exact hsm.out) (by rw [← he]; exact hp2l)
    rw [es.out, ← he] at this
    exact this
  have hq3 : Hid (takeText l2 ((s.size : Int) - 1) = none) := by
    have he := e2.out
    rw [List.nil_append] at he
    have := takeText_less (l := s.data.toList) (by rw [es.out]; exact hsm.out)
    rw [es.out, ← he] at this
    exact this
  have hr1' := (Rd.of_own h1).belowW hb2 (Nat.le_refl _)
  have hr2' := Rd.of_own g1
  have s0 := hb0.size
  have s1 := hb1.size
  have s2 := hb2.size
  clear hp1 hp2 hlp hl2p e1 e2
  go_wp2_with fail
  with_reducible refine (TakeNum_n A1 (l1.take p1) _ _ w2 (by simp; omega) ((hr1'.head (by omega)).more s2) (by omega) (by omega)).mono ?_
  intro e w3 k1
  rw [hq1.out] at k1
  obtain ⟨rfl, hb3⟩ := k1
  have s3 := hb3.size
  go_wp2_with fail
  with_reducible refine (TakeText_n A2 (l2.take p2) _ _ _ w3 (by simp; omega) (((hr2'.head (by omega)).belowW hb3 (Nat.le_refl _)).more s3) (by omega) (by omega)).mono ?_
  intro e w4 k2
  rw [hq2.out] at k2
  obtain ⟨rfl, hb4⟩ := k2
  have s4 := hb4.size
  go_wp2_with fail
  with_reducible refine (TakeText_n A2 l2 _ _ _ w4 rfl (((hr2'.belowW hb3 (Nat.le_refl _)).more s3).belowW hb4 (Nat.le_refl _) |>.more s4) (by omega) (by omega)).mono ?_
  intro e w5 k3
  rw [hq3.out] at k3
  obtain ⟨rfl, hb5⟩ := k3
  go_wp2_with fail
  go_ret
  exact ⟨rfl, ((((hb0.trans (hb1.mono s0)).trans (hb2.mono (by omega))).trans (hb3.mono (by omega))).trans (hb4.mono (by omega))).trans (hb5.mono (by omega))⟩
end Go.Proofs.Ytibcehdehhffjaa
