/- The walks of the layer 'code', its sixth part: the reference's taking. Conditions: bytes that are made fit 2^47. -/
import Derived.Test.YtcefbhmmijmefaaCode5
namespace Go.Proofs.Ytcefbhmmijmefaa
open Go.RowKit Go.Dol

/-- The loop of the reference's TakeNum at its head. -/
def RefTakeRel (l : List UInt8) (n p i : Value) : Prop :=
  ∃ (k m : Nat) (q : Int), n = .int .i64 m ∧ p = .int .i64 q ∧ i = .int .i64 k ∧ Pre l k ∧ k ≤ 9 ∧ Hid (m = acc (l.take k)) ∧ Hid (k < 9 → q = ((128 ^ k : Nat) : Int))

theorem ref_group (m y k : Nat) (hk : k < 8 ∨ k = 8 ∧ y ≤ 63) (hm : m < 128 ^ k) (hy : y < 128) :
    ∃ z : Nat, (y : Int) * ((128 ^ k : Nat) : Int) = (z : Int) ∧ z = 128 ^ k * y ∧ m + z ≤ mostNum := by
  refine ⟨128 ^ k * y, by rw [Int.mul_comm]; simp, rfl, ?_⟩
  unfold mostNum
  rcases hk with hk | ⟨rfl, hy2⟩
  · have hle : 128 ^ k ≤ 128 ^ 7 := Nat.pow_le_pow_right (by decide) (by omega)
    have hz : 128 ^ k * y ≤ 128 ^ 7 * 127 := Nat.mul_le_mul hle (by omega)
    omega
  · omega

theorem take_big {l : List UInt8} {k : Nat} (h : Pre l k) (hk : k < l.length) (h8 : k = 8) (hc : 63 < (l[k]).toNat % 128) : takeNum l = none := by
  subst h8
  by_cases h128 : (l[8]).toNat < 128
  · rw [takeNum_at h hk (by omega) h128 (by omega), if_neg]
    rw [acc_step hk]
    unfold mostNum
    omega
  · exact takeNum_long (h.succ hk (by omega))

set_option maxRecDepth 100000 in
set_option maxHeartbeats 400000 in
theorem RefTakeNum_calls (A : Option Addr) (l : List UInt8) (c : Nat) (w : World) (hr : Rd w w.heap.size 1 A l.length (bc l)) (hl : l.length ≤ 140737488355328) (hc : l.length ≤ c) :
    Calls Try.prog 23 #[.slice A l.length c] w (RetTake 5 w (takeNum l)) := by
  go_enter Try.func23, Try.ntmps23
  go_wp2_with fail
  go_loop [5, 6, 7] (fun n p i => RefTakeRel l n p i) (fun _ _ i => 9 - (intOf i).toNat)
  case atStart => exact ⟨0, 0, 1, rfl, rfl, rfl, Pre.zero l, by omega, by simp [Hid, acc], by simp [Hid]⟩
  case round =>
    obtain ⟨k, m, q, rfl, rfl, rfl, hp, hk9, hm, hq⟩ := hrel
    have hkl := hp.1
    have HP := Lib.hid hp
    clear hp
    by_cases hlt : k < l.length
    · by_cases h9 : k = 9
      · have hki : ¬ (k : Int) < 9 := by omega
        have HK := Lib.hid h9
        clear h9
        go_wp2_with fail
        go_ret3
        have := HP.out
        rw [HK.out] at this
        rw [takeNum_long this]
        exact ⟨rfl, Below.refl _ _⟩
      · have hk8 : k < 9 := by omega
        obtain ⟨b, off, rfl, hb, hcell⟩ := hr.at_ (by omega)
        have hcx := hcell k _ (bc_get l k hlt)
        obtain ⟨x, hx⟩ : ∃ x, x = (l[k]).toNat := ⟨_, rfl⟩
        have hx256 : x < 256 := by have := (l[k]).toNat_lt; omega
        rw [← hx] at hcx
        have HX := Lib.hid hx
        clear hx hcell h9 hk9
        obtain ⟨y, hy⟩ : ∃ y, y = x % 128 := ⟨_, rfl⟩
        have hyx : (x : Int) % 128 = (y : Int) := by omega
        have hy128 : y < 128 := by omega
        have HY := Lib.hid hy
        clear hy
        have Hq : Hid (q = ((128 ^ k : Nat) : Int)) := hq.out hk8
        by_cases hbig : k = 8 ∧ 63 < y
        · obtain ⟨hb1, hb2⟩ := hbig
          have HB := Lib.hid hb1
          have hb3 : (8 : Int) ≤ k := by omega
          have hb4 : (63 : Int) < y := by omega
          clear hb1
          go_wp2_with fail
          go_ret3
          rw [take_big HP.out hlt HB.out (by rw [← HX.out, ← HY.out]; exact hb2)]
          exact ⟨rfl, Below.refl _ _⟩
        · obtain ⟨z, hz1, hz2, hz3⟩ := ref_group m y k (by omega) (by rw [hm.out]; exact acc_take_lt l k hkl) hy128
          have hz4 : (m : Int) + (z : Int) ≤ 4611686018427387903 := by unfold mostNum at hz3; omega
          rw [← Hq.out] at hz1
          have hm' : Hid (m + z = acc (l.take (k + 1))) := by unfold Hid; rw [acc_step hlt, hz2, hm.out, ← HX.out, ← HY.out]
          have HM := Lib.hid hz3
          clear hz2 hz3
          have h8c : k < 8 ∨ k = 8 ∧ y ≤ 63 := by omega
          clear hbig
          rcases h8c with h81 | ⟨h81, h82⟩
          · have h8i : (k : Int) < 8 := by omega
            clear h81
            by_cases hx128 : x < 128
            · have HL : Hid ((num (m + z)).length = k + 1 ↔ ¬ (0 < k ∧ x = 0)) := by
                have := num_acc_length HP.out hlt (by omega) (by rw [← HX.out]; exact hx128)
                rwa [← hm'.out, ← HX.out] at this
              have Hc : Hid (clampN ((m : Int) + (z : Int)) = m + z) := by have := HM.out; unfold mostNum at this; unfold Hid clampN; omega
              by_cases hxk : 0 < k ∧ x = 0
              · have HT : Hid (takeNum l = none) := takeNum_nought HP.out hlt (by omega) hxk.1 (by rw [← HX.out]; exact hxk.2)
                have HL2 : Hid ((num (m + z)).length ≠ k + 1) := fun e => HL.out.1 e hxk
                have hxi : (x : Int) < 128 := by omega
                clear hxk
                go_wp2_with fail
                refine (RefPutNum_calls none [] 0 _ w Rd.nil (by simp)).mono ?_
                rintro e w1 ⟨l1, A1, c1, e1, rfl, h1, hb1, h2, h3⟩
                have hne : ((l1.length : Int) != (k : Int) + 1) = true := by
                  rw [bne_iff_ne]
                  intro he
                  apply HL2.out
                  have e2 := e1.out
                  rw [List.nil_append, Hc.out] at e2
                  rw [← e2]
                  omega
                go_wp2_with fail
                go_ret3
                rw [HT.out]
                exact ⟨rfl, hb1⟩
              · have HT : Hid (takeNum l = some (m + z, l.drop (k + 1))) := by
                  have := takeNum_at HP.out hlt (by omega) (by rw [← HX.out]; exact hx128) (by rw [← HX.out]; exact hxk)
                  rwa [← hm'.out, if_pos HM.out] at this
                have HL2 : Hid ((num (m + z)).length = k + 1) := HL.out.2 hxk
                have hxi : (x : Int) < 128 := by omega
                clear hxk
                go_wp2_with fail
                refine (RefPutNum_calls none [] 0 _ w Rd.nil (by simp)).mono ?_
                rintro e w1 ⟨l1, A1, c1, e1, rfl, h1, hb1, h2, h3⟩
                have hne : ((l1.length : Int) != (k : Int) + 1) = false := by
                  have e2 := e1.out
                  rw [List.nil_append, Hc.out] at e2
                  have e3 := HL2.out
                  rw [← e2] at e3
                  rw [bne_eq_false_iff_eq]
                  omega
                have hs := hb1.size
                have htl := ((hr.tail (k := k + 1) hlt hc).belowW hb1 (Nat.le_refl _)).more hs
                by_cases hcap : c = k + 1
                · rw [if_pos hcap] at htl
                  have HC := Lib.hid hcap
                  go_wp2_with (at_builtin; refine app8 rfl (.tmp 48) (.tmp 52) rfl w1.heap.size _ 0 [] rfl (own_empty w1) _ _ _ _ (l.drop (k + 1)) rfl (htl.alloc (Nat.le_refl _) _) (by omega) (by simp) ?_)
                  intro l' A' c' w' e' g1 gb g2 g3 g4 g5
                  go_wp2_with fail
                  go_ret3
                  rw [HT.out]
                  exact ⟨l', A', c', e', rfl, g1.base hs, hb1.trans ((((Below.refl _ _).alloc (Nat.le_refl _) _).trans gb).mono hs), g4, g5⟩
                · rw [if_neg hcap] at htl
                  have htl' : Rd w1 w1.heap.size 1 (some ⟨b, off + (k + 1), none⟩) (l.length - (k + 1)) (bc (l.drop (k + 1))) := by simpa [Addr.add_lit] using htl
                  clear htl
                  go_wp2_with (at_builtin; refine app8 rfl (.tmp 48) (.tmp 52) rfl w1.heap.size _ 0 [] rfl (own_empty w1) _ _ _ _ (l.drop (k + 1)) rfl (htl'.alloc (Nat.le_refl _) _) (by omega) (by simp) ?_)
                  intro l' A' c' w' e' g1 gb g2 g3 g4 g5
                  go_wp2_with fail
                  go_ret3
                  rw [HT.out]
                  exact ⟨l', A', c', e', rfl, g1.base hs, hb1.trans ((((Below.refl _ _).alloc (Nat.le_refl _) _).trans gb).mono hs), g4, g5⟩
            · have hxi : ¬ (x : Int) < 128 := by omega
              have HP' : Hid (Pre l (k + 1)) := HP.out.succ hlt (by rw [← HX.out]; omega)
              go_wp2_with fail
              refine ⟨⟨k + 1, m + z, _, by go_num, rfl, by go_num, HP'.out, by omega, hm', ?_⟩, by simp [intOf]; omega⟩
              unfold Hid at *
              intro hk9
              have hle : 128 ^ k ≤ 128 ^ 7 := Nat.pow_le_pow_right (by decide) (by omega)
              have hp0 : 0 < 128 ^ k := Nat.pow_pos (by decide)
              rw [Hq, IntWalk.wrap64_in _ (by omega), Nat.pow_succ]
              simp
          · subst h81
            have h8i : (y : Int) ≤ 63 := by omega
            clear h82
            by_cases hx128 : x < 128
            · have HL : Hid ((num (m + z)).length = 8 + 1 ↔ ¬ (0 < 8 ∧ x = 0)) := by
                have := num_acc_length HP.out hlt (by omega) (by rw [← HX.out]; exact hx128)
                rwa [← hm'.out, ← HX.out] at this
              have Hc : Hid (clampN ((m : Int) + (z : Int)) = m + z) := by have := HM.out; unfold mostNum at this; unfold Hid clampN; omega
              by_cases hxk : 0 < 8 ∧ x = 0
              · have HT : Hid (takeNum l = none) := takeNum_nought HP.out hlt (by omega) hxk.1 (by rw [← HX.out]; exact hxk.2)
                have HL2 : Hid ((num (m + z)).length ≠ 8 + 1) := fun e => HL.out.1 e hxk
                have hxi : (x : Int) < 128 := by omega
                clear hxk
                go_wp2_with fail
                refine (RefPutNum_calls none [] 0 _ w Rd.nil (by simp)).mono ?_
                rintro e w1 ⟨l1, A1, c1, e1, rfl, h1, hb1, h2, h3⟩
                have hne : ((l1.length : Int) != 8 + 1) = true := by
                  rw [bne_iff_ne]
                  intro he
                  apply HL2.out
                  have e2 := e1.out
                  rw [List.nil_append, Hc.out] at e2
                  rw [← e2]
                  omega
                go_wp2_with fail
                go_ret3
                rw [HT.out]
                exact ⟨rfl, hb1⟩
              · have HT : Hid (takeNum l = some (m + z, l.drop (8 + 1))) := by
                  have := takeNum_at HP.out hlt (by omega) (by rw [← HX.out]; exact hx128) (by rw [← HX.out]; exact hxk)
                  rwa [← hm'.out, if_pos HM.out] at this
                have HL2 : Hid ((num (m + z)).length = 8 + 1) := HL.out.2 hxk
                have hxi : (x : Int) < 128 := by omega
                clear hxk
                go_wp2_with fail
                refine (RefPutNum_calls none [] 0 _ w Rd.nil (by simp)).mono ?_
                rintro e w1 ⟨l1, A1, c1, e1, rfl, h1, hb1, h2, h3⟩
                have hne : ((l1.length : Int) != 8 + 1) = false := by
                  have e2 := e1.out
                  rw [List.nil_append, Hc.out] at e2
                  have e3 := HL2.out
                  rw [← e2] at e3
                  rw [bne_eq_false_iff_eq]
                  omega
                have hs := hb1.size
                have htl := ((hr.tail (k := 8 + 1) hlt hc).belowW hb1 (Nat.le_refl _)).more hs
                by_cases hcap : c = 8 + 1
                · rw [if_pos hcap] at htl
                  have HC := Lib.hid hcap
                  go_wp2_with (at_builtin; refine app8 rfl (.tmp 48) (.tmp 52) rfl w1.heap.size _ 0 [] rfl (own_empty w1) _ _ _ _ (l.drop (8 + 1)) rfl (htl.alloc (Nat.le_refl _) _) (by omega) (by simp) ?_)
                  intro l' A' c' w' e' g1 gb g2 g3 g4 g5
                  go_wp2_with fail
                  go_ret3
                  rw [HT.out]
                  exact ⟨l', A', c', e', rfl, g1.base hs, hb1.trans ((((Below.refl _ _).alloc (Nat.le_refl _) _).trans gb).mono hs), g4, g5⟩
                · rw [if_neg hcap] at htl
                  have htl' : Rd w1 w1.heap.size 1 (some ⟨b, off + (8 + 1), none⟩) (l.length - (8 + 1)) (bc (l.drop (8 + 1))) := by simpa [Addr.add_lit] using htl
                  clear htl
                  go_wp2_with (at_builtin; refine app8 rfl (.tmp 48) (.tmp 52) rfl w1.heap.size _ 0 [] rfl (own_empty w1) _ _ _ _ (l.drop (8 + 1)) rfl (htl'.alloc (Nat.le_refl _) _) (by omega) (by simp) ?_)
                  intro l' A' c' w' e' g1 gb g2 g3 g4 g5
                  go_wp2_with fail
                  go_ret3
                  rw [HT.out]
                  exact ⟨l', A', c', e', rfl, g1.base hs, hb1.trans ((((Below.refl _ _).alloc (Nat.le_refl _) _).trans gb).mono hs), g4, g5⟩
            · have hxi : ¬ (x : Int) < 128 := by omega
              have HP' : Hid (Pre l (8 + 1)) := HP.out.succ hlt (by rw [← HX.out]; omega)
              go_wp2_with fail
              refine ⟨⟨8 + 1, m + z, _, by go_num, rfl, by go_num, HP'.out, by omega, hm', ?_⟩, by simp [intOf]⟩
              unfold Hid at *
              intro hk9
              omega
    · have hkk : k = l.length := by omega
      have HK := Lib.hid hkk
      clear hkk
      go_wp2_with fail
      go_ret3
      rw [takeNum_end (by have := HP.out; rwa [HK.out] at this)]
      exact ⟨rfl, Below.refl _ _⟩

set_option maxRecDepth 100000 in
set_option maxHeartbeats 400000 in
theorem RefTakeText_calls (A : Option Addr) (l : List UInt8) (c : Nat) (most : Int) (w : World) (hr : Rd w w.heap.size 1 A l.length (bc l)) (hl : l.length ≤ 140737488355328) (hc : l.length ≤ c) :
    Calls Try.prog 25 #[.slice A l.length c, .int .i64 most] w (RetText w (takeText l most)) := by
  cases ht : takeNum l with
  | none =>
    have HE : Hid (takeText l most = none) := by unfold Hid takeText; rw [ht]
    have HT := Lib.hid ht
    clear ht
    go_enter Try.func25, Try.ntmps25
    go_wp2_with fail
    refine (RefTakeNum_calls A l c w hr hl hc).mono ?_
    intro e w1 h1
    rw [HT.out] at h1
    obtain ⟨rfl, hb1⟩ := h1
    go_wp2_with fail
    go_ret3
    rw [HE.out]
    exact ⟨rfl, hb1⟩
  | some p =>
    obtain ⟨n, q⟩ := p
    have hn := (num_takeNum ht).2
    unfold mostNum at hn
    have hni : (n : Int) ≤ 4611686018427387903 := by omega
    have HE : Hid (takeText l most = if (n : Int) ≤ most ∧ n ≤ q.length then some (q.take n, q.drop n) else none) := by unfold Hid takeText; rw [ht]
    have HT := Lib.hid ht
    clear ht hn
    have hcase : most < (n : Int) ∨ ((n : Int) ≤ most ∧ q.length < n) ∨ ((n : Int) ≤ most ∧ n ≤ q.length) := by omega
    rcases hcase with h0 | ⟨h0, h00⟩ | ⟨h0, h00⟩
    · have HE2 : Hid (takeText l most = none) := by have := HE.out; rwa [if_neg (by omega)] at this
      clear HE
      have hd : decide (most < (n : Int)) = true := by simpa using h0
      go_enter Try.func25, Try.ntmps25
      go_wp2_with fail
      refine (RefTakeNum_calls A l c w hr hl hc).mono ?_
      intro e w1 h1
      rw [HT.out] at h1
      obtain ⟨q1, A1, c1, e1, rfl, h1, hb1, h2, h3⟩ := h1
      go_wp2_with fail
      go_ret3
      rw [HE2.out]
      exact ⟨rfl, hb1⟩
    · have HE2 : Hid (takeText l most = none) := by have := HE.out; rwa [if_neg (by omega)] at this
      clear HE
      have hd : decide (most < (n : Int)) = false := by simpa using h0
      go_enter Try.func25, Try.ntmps25
      go_wp2_with fail
      refine (RefTakeNum_calls A l c w hr hl hc).mono ?_
      intro e w1 h1
      rw [HT.out] at h1
      obtain ⟨q1, A1, c1, e1, rfl, h1, hb1, h2, h3⟩ := h1
      have hd2 : decide (q1.length < n) = true := by rw [e1.out]; simpa using h00
      have hd3 : decide ((q1.length : Int) < (n : Int)) = true := by rw [e1.out]; simpa using h00
      go_wp2_with fail
      go_ret3
      rw [HE2.out]
      exact ⟨rfl, hb1⟩
    · have HE2 : Hid (takeText l most = some (q.take n, q.drop n)) := by have := HE.out; rwa [if_pos ⟨h0, h00⟩] at this
      clear HE
      have hd : decide (most < (n : Int)) = false := by simpa using h0
      go_enter Try.func25, Try.ntmps25
      go_wp2_with fail
      refine (RefTakeNum_calls A l c w hr hl hc).mono ?_
      intro e w1 h1
      rw [HT.out] at h1
      obtain ⟨q1, A1, c1, e1, rfl, h1, hb1, h2, h3⟩ := h1
      have hnq : n ≤ q1.length := by rw [e1.out]; exact h00
      have hd2 : decide (q1.length < n) = false := by simpa using hnq
      have hd3 : decide ((q1.length : Int) < (n : Int)) = false := by simpa using hnq
      have hr1 := Rd.of_own h1
      have ht := (hr1.tail hnq h2)
      have hcv1 : ∀ k, (convert 22 9 (.slice A1 n c1)).run Try.prog (w1.drewN k) = .ok (.string ⟨(q1.take n).toArray⟩) (w1.drewN k) := fun k => run_conv_bs _ _ _ _ Try.underlying22 Try.underlying5 Try.underlying9 _ A1 n c1 (q1.take n) ((hr1.head hnq).drewN k)
      have hcv2 : (convert 22 9 (.slice A1 n c1)).run Try.prog w1.drew = .ok (.string ⟨(q1.take n).toArray⟩) w1.drew := run_conv_bs _ _ _ _ Try.underlying22 Try.underlying5 Try.underlying9 _ A1 n c1 (q1.take n) (hr1.head hnq).drew
      have hnc : n ≤ c1 := by omega
      by_cases hcap : c1 = n
      · clear ht
        subst hcap
        go_wp2_with fail
        go_quiet (fail)
        go_wp2_with fail
        go_ret3
        rw [HE2.out]
        cases e1.out
        exact ⟨[], A1, 0, (List.drop_eq_nil_of_le (by omega)).symm, rfl, Rd.nil, Below.drewN' hb1 _, Nat.le_refl _, by unfold maxLen; omega⟩
      · rw [if_neg hcap] at ht
        go_wp2_with fail
        go_quiet (fail)
        go_wp2_with fail
        go_ret3
        rw [HE2.out]
        cases e1.out
        exact ⟨q.drop _, _, _, rfl, by rw [List.length_drop]; rfl, by rw [List.length_drop]; exact ht.drewN _, Below.drewN' hb1 _, by rw [List.length_drop]; omega, by omega⟩

set_option maxRecDepth 100000 in
set_option maxHeartbeats 400000 in
theorem RefTakeInt_calls (A : Option Addr) (l : List UInt8) (c : Nat) (w : World) (hr : Rd w w.heap.size 1 A l.length (bc l)) (hl : l.length ≤ 140737488355328) (hc : l.length ≤ c) :
    Calls Try.prog 27 #[.slice A l.length c] w (RetInt w (takeNum l)) := by
  cases ht : takeNum l with
  | none =>
    have HT := Lib.hid ht
    clear ht
    go_enter Try.func27, Try.ntmps27
    go_wp2_with fail
    refine (RefTakeNum_calls A l c w hr hl hc).mono ?_
    intro e w1 h1
    rw [HT.out] at h1
    obtain ⟨rfl, hb1⟩ := h1
    go_wp2_with fail
    go_ret3
    exact ⟨rfl, hb1⟩
  | some p =>
    obtain ⟨n, q⟩ := p
    have hn := (num_takeNum ht).2
    have hni : (n : Int) ≤ 4611686018427387903 := by unfold mostNum at hn; omega
    have HT := Lib.hid ht
    clear ht hn
    by_cases hz : n % 2 = 0
    · have hzz : Hid (zag n = (n : Int) / 2) := by unfold Hid zag; rw [if_pos hz]; omega
      have hzi : (n : Int) % 2 < 1 := by omega
      clear hz
      go_enter Try.func27, Try.ntmps27
      go_wp2_with fail
      refine (RefTakeNum_calls A l c w hr hl hc).mono ?_
      intro e w1 h1
      rw [HT.out] at h1
      obtain ⟨q1, A1, c1, e1, rfl, h1, hb1, h2, h3⟩ := h1
      go_wp2_with fail
      go_ret3
      exact ⟨q1, A1, c1, e1, by rw [hzz.out]; rfl, h1, hb1, h2, h3⟩
    · have hzz : Hid (zag n = wrap64 (-(((n : Int) + 1).tdiv 2))) := by
        unfold Hid zag
        rw [if_neg hz, Int.tdiv_eq_ediv_of_nonneg (by omega), IntWalk.wrap64_in _ (by omega)]
        omega
      have hzi : 0 < (n : Int) % 2 := by omega
      clear hz
      go_enter Try.func27, Try.ntmps27
      go_wp2_with fail
      refine (RefTakeNum_calls A l c w hr hl hc).mono ?_
      intro e w1 h1
      rw [HT.out] at h1
      obtain ⟨q1, A1, c1, e1, rfl, h1, hb1, h2, h3⟩ := h1
      go_wp2_with fail
      go_ret3
      exact ⟨q1, A1, c1, e1, by rw [hzz.out]; rfl, h1, hb1, h2, h3⟩

end Go.Proofs.Ytcefbhmmijmefaa
