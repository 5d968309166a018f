/- The walks of the laws DeltaBack, DeltaCut and DeltaMost. Conditions: lengths below 2^20. -/
import Derived.Test.YtpkfkippbanagaaDeltaAwake
namespace Go.Proofs.Ytpkfkippbanagaa
open Go.RowKit Go.Dol
set_option linter.unusedVariables false

theorem enc_len {b t : List UInt8} (hb : b.length ≤ 1048576) (ht : t.length ≤ 1048576) : (encL b t).length ≤ 1048595 := by have := enc_cost (base := b) (target := t) hb ht; omega
/-- What is told by a base, applied to it again, with any bound. -/
theorem Apply_enc (Ab : Option Addr) (b t : List UInt8) (cb : Nat) (A : Option Addr) (l : List UInt8) (c : Nat) (most : Int) (w : World) (he : Hid (l = encL b t)) (hrb : Rd w w.heap.size 1 Ab b.length (bc b)) (hb : b.length ≤ 1048576) (ht : t.length ≤ 1048576) (hcb : b.length ≤ cb) (hcbm : cb ≤ maxLen)
    (hr : Rd w w.heap.size 1 A l.length (bc l)) (hc : l.length ≤ c) :
    Calls Try.prog 29 #[.slice Ab b.length cb, .slice A l.length c, .int .i64 most] w (RetApply w (if (t.length : Int) ≤ most then some t else none)) := by
  have hl := enc_len hb ht
  have e := he.out
  rw [← apply_enc (base := b) (target := t) (by unfold mostLen; omega) (by unfold mostLen; omega) most, ← e]
  rw [← e] at hl
  refine Apply_gen Ab b cb A l c most w hrb (by omega) hcb hcbm hr (by omega) hc fun n q s r h1 h2 _ => ?_
  rw [e, encL, takeNum_num _ _ (by unfold mostNum; omega)] at h1
  injection h1 with h1
  injection h1 with _ h1
  rw [← h1, takeNum_num _ _ (by unfold mostNum; omega)] at h2
  injection h2 with h2
  injection h2 with h2 _
  omega
theorem num_same {a b : Nat} {p q : List UInt8} (ha : a ≤ mostNum) (hb : b ≤ mostNum) (h : num a ++ p = num b ++ q) : a = b := by
  have h1 := takeNum_num a p ha
  rw [h, takeNum_num b q hb] at h1
  injection h1 with h1
  injection h1 with h1 _
  exact h1.symm

set_option maxRecDepth 100000 in
set_option maxHeartbeats 800000 in
theorem deltaMost_walk (A : Option Addr) (b : List UInt8) (c : Nat) (A2 : Option Addr) (t : List UInt8) (c2 : Nat) (most : Int) (w : World) (hr : Rd w w.heap.size 1 A b.length (bc b)) (hc : b.length ≤ c) (hm : c ≤ maxLen) (hn : b.length ≤ 1048576)
    (hr2 : Rd w w.heap.size 1 A2 t.length (bc t)) (hc2 : t.length ≤ c2) (hm2 : c2 ≤ maxLen) (hn2 : t.length ≤ 1048576) (hwf : (Lit.int .i64 most).wf = true) :
    Calls Try.prog 11 #[.slice A b.length c, .slice A2 t.length c2, .int .i64 most] w fun e w' => e = .returned (.bool true) ∧ Below w.heap.size w w' := by
  clear hwf
  go_enter Try.func11, Try.ntmps11
  go_wp2_with fail
  refine (awake_calls w).mono ?_
  rintro e w0 ⟨rfl, hb0⟩
  have r0 := hr.alive hb0
  have r02 := hr2.alive hb0
  go_wp2_with fail
  refine (Encode_calls A b c A2 t c2 w0 r0 r02 hn hn2 hc hm hc2 hm2).mono ?_
  rintro e w1 ⟨q1, A1, c1, e1, rfl, hr1, hb1, i1, i2⟩
  have r1 := r0.alive hb1
  have r12 := r02.alive hb1
  go_wp2_with fail
  refine (Apply_enc A b t c A1 q1 c1 most w1 e1 r1 hn hn2 hc hm hr1 i1).mono ?_
  intro e w2 h2
  by_cases hlt : most < (t.length : Int)
  · rw [if_neg (by omega)] at h2
    obtain ⟨rfl, hb2⟩ := h2
    have d1 : decide (most < (t.length : Int)) = true := by simp; omega
    go_wp2_with fail
    go_ret
    exact ⟨rfl, (hb0.next hb1).next hb2⟩
  · rw [if_pos (by omega)] at h2
    obtain ⟨q2, A3, c3, e2, rfl, hr3, hb2, i3, i4⟩ := h2
    have d1 : decide (most < (t.length : Int)) = false := by simp; omega
    go_wp2_with fail
    refine (Same_n A3 q2 q2.length c3 A2 t t.length c2 w2 w2.heap.size w1.heap.size hr3 (r12.below hb2) (by unfold Hid; rw [e2.out])).mono ?_
    rintro e w3 ⟨rfl, rfl⟩
    go_wp2_with fail
    go_ret
    exact ⟨rfl, (hb0.next hb1).next hb2⟩

set_option maxRecDepth 100000 in
set_option maxHeartbeats 1600000 in
theorem deltaBack_walk (A : Option Addr) (b : List UInt8) (c : Nat) (A2 : Option Addr) (t : List UInt8) (c2 : Nat) (more : Int) (w : World) (hr : Rd w w.heap.size 1 A b.length (bc b)) (hc : b.length ≤ c) (hm : c ≤ maxLen) (hn : b.length ≤ 1048576)
    (hr2 : Rd w w.heap.size 1 A2 t.length (bc t)) (hc2 : t.length ≤ c2) (hm2 : c2 ≤ maxLen) (hn2 : t.length ≤ 1048576) (hwf : (Lit.int .u8 more).wf = true) :
    Calls Try.prog 7 #[.slice A b.length c, .slice A2 t.length c2, .int .u8 more] w fun e w' => e = .returned (.bool true) ∧ Below w.heap.size w w' := by
  have hk0 : 0 ≤ more ∧ more < 256 := by
    have h := hwf
    simp [Lit.wf, IntKind.min, IntKind.max, IntKind.signed, IntKind.bits] at h
    omega
  clear hwf
  have f1 : IntKind.i64.wrap ((t.length : Int) - 1) = (t.length : Int) - 1 := IntWalk.i64_in _ (by omega)
  go_enter Try.func7, Try.ntmps7
  go_wp2_with fail
  refine (awake_calls w).mono ?_
  rintro e w0 ⟨rfl, hb0⟩
  have r0 := hr.alive hb0
  have r02 := hr2.alive hb0
  go_wp2_with fail
  refine (Encode_calls A b c A2 t c2 w0 r0 r02 hn hn2 hc hm hc2 hm2).mono ?_
  rintro e w1 ⟨q1, A1, c1, e1, rfl, hr1, hb1, i1, i2⟩
  have r1 := r0.alive hb1
  have r12 := r02.alive hb1
  have hql : q1.length ≤ 1048595 := by rw [e1.out]; exact enc_len hn hn2
  go_wp2_with fail
  refine (Apply_enc A b t c A1 q1 c1 _ w1 e1 r1 hn hn2 hc hm hr1 i1).mono ?_
  intro e w2 h2
  rw [if_pos (Int.le_refl _)] at h2
  obtain ⟨q2, A3, c3, e2, rfl, hr3, hb2, i3, i4⟩ := h2
  have r2 := r1.alive hb2
  have r22 := r12.alive hb2
  have hr12 := hr1.alive hb2
  go_wp2_with fail
  refine (Apply_enc A b t c A1 q1 c1 _ w2 e1 r2 hn hn2 hc hm hr12 i1).mono ?_
  intro e w3 h3
  rw [if_neg (by omega)] at h3
  obtain ⟨rfl, hb3⟩ := h3
  have r3 := r2.alive hb3
  have r32 := r22.alive hb3
  have hr13 := hr12.alive hb3
  have hr33 := hr3.alive hb3
  have hb03 := ((hb0.next hb1).next hb2).next hb3
  clear r0 r02 r1 r12 r2 r22 hr12 hr1 hr3 hb0 hb1 hb2 hb3 i3 i4
  go_wp2_with (at_builtin; refine app8 rfl (.tmp 37) (.tmp 38) rfl w3.heap.size _ 0 [] rfl (own_empty w3) w3.heap.size A b.length c b rfl (r3.alloc (Nat.le_refl _) _) (by omega) (by simp) ?_)
  intro l4 A4 c4 w4 e4 ho4 hb4 _ _ i5 i6
  have e4l : l4.length = b.length := by simp [e4.out]
  have E4 := Lib.hid e4l
  have hl4 : l4.length ≤ 1048576 := by omega
  clear e4l
  have hb4' : Below w3.heap.size w3 w4 := ((Below.refl _ _).alloc (Nat.le_refl _) _).trans hb4
  go_wp2_with (at_builtin; refine push8 rfl (.tmp 39) (.tmp 41) rfl w3.heap.size _ l4.length l4 rfl ho4 rfl hk0.1 hk0.2 (by omega) hb4'.size ?_)
  intro x l5 A5 c5 w5 hx e5 ho5 hb5 _ _ i7 i8
  have hl5 : Hid (l5.length = b.length + 1) := by unfold Hid; rw [e5.out, List.length_append, E4.out]; rfl
  have hb5' := hb4'.trans hb5
  have hno : Hid (applyL l5 q1 (t.length : Int) = none) := by
    unfold Hid
    have h1 : takeNum q1 = some (b.length, (encL b t).drop (num b.length).length) := by
      rw [e1.out, encL, takeNum_num _ _ (by unfold mostNum; omega), List.drop_left]
    exact applyL_other (base := b) h1 (by rw [hl5.out]; omega) _
  have hl5n : l5.length ≤ 1048577 := by rw [hl5.out]; omega
  clear hl5
  go_wp2_with fail
  refine (Apply_calls A5 l5 c5 A1 q1 c1 (t.length : Int) w5 (Rd.of_own ho5) (by omega) i7 i8 (hr13.alive hb5') (by omega) i1 (by omega)).mono ?_
  intro e w6 h6
  rw [hno.out] at h6
  obtain ⟨rfl, hb6⟩ := h6
  have hb36 := hb5'.next hb6
  go_wp2_with fail
  refine (Same_n A3 q2 q2.length c3 A2 t t.length c2 w6 w3.heap.size w3.heap.size (hr33.below hb36) (r32.below hb36) (by unfold Hid; rw [e2.out])).mono ?_
  rintro e w7 ⟨rfl, rfl⟩
  go_wp2_with fail
  go_ret
  exact ⟨rfl, hb03.next hb36⟩

set_option maxRecDepth 100000 in
set_option maxHeartbeats 1600000 in
theorem deltaCut_walk (A : Option Addr) (b : List UInt8) (c : Nat) (A2 : Option Addr) (t : List UInt8) (c2 : Nat) (at' more : Int) (w : World) (hr : Rd w w.heap.size 1 A b.length (bc b)) (hc : b.length ≤ c) (hm : c ≤ maxLen) (hn : b.length ≤ 1048576)
    (hr2 : Rd w w.heap.size 1 A2 t.length (bc t)) (hc2 : t.length ≤ c2) (hm2 : c2 ≤ maxLen) (hn2 : t.length ≤ 1048576) (hwf0 : (Lit.int .i64 at').wf = true) (hwf : (Lit.int .u8 more).wf = true) :
    Calls Try.prog 9 #[.slice A b.length c, .slice A2 t.length c2, .int .i64 at', .int .u8 more] w fun e w' => e = .returned (.bool true) ∧ Below w.heap.size w w' := by
  have hk0 : 0 ≤ more ∧ more < 256 := by
    have h := hwf
    simp [Lit.wf, IntKind.min, IntKind.max, IntKind.signed, IntKind.bits] at h
    omega
  clear hwf hwf0
  obtain ⟨r1, hr1', hf1⟩ := i64_low at' 1048575 (by omega)
  replace hf1 : bits .and .i64 at' 1048575 = (r1 : Int) := hf1
  go_enter Try.func9, Try.ntmps9
  go_wp2_with fail
  refine (awake_calls w).mono ?_
  rintro e w0 ⟨rfl, hb0⟩
  have r0 := hr.alive hb0
  have r02 := hr2.alive hb0
  go_wp2_with fail
  refine (Encode_calls A b c A2 t c2 w0 r0 r02 hn hn2 hc hm hc2 hm2).mono ?_
  rintro e w1 ⟨q1, A1, c1, e1, rfl, hr1, hb1, i1, i2⟩
  have rb1 := r0.alive hb1
  have hql : q1.length ≤ 1048595 := by rw [e1.out]; exact enc_len hn hn2
  have hqp : 0 < q1.length := by rw [e1.out]; exact encL_pos b t
  have hqpi : (0 : Int) < (q1.length : Int) := by omega
  have hz1 : ((q1.length : Int) == 0) = false := beq_eq_false_iff_ne.2 (by omega)
  have hz1' : ((q1.length : Int) != 0) = true := bne_iff_ne.2 (by omega)
  rcases Nat.eq_zero_or_pos t.length with ht0 | ht0
  · have hz2 : ((t.length : Int) == 0) = true := beq_iff_eq.2 (by omega)
    have HZ := Lib.hid ht0
    clear ht0
    go_wp2_with fail
    go_ret
    exact ⟨rfl, hb0.next hb1⟩
  · have hz2 : ((t.length : Int) == 0) = false := beq_eq_false_iff_ne.2 (by omega)
    obtain ⟨p1, hp1⟩ : ∃ p1, p1 = r1 % q1.length := ⟨_, rfl⟩
    have hp1l : p1 < q1.length := by rw [hp1]; exact Nat.mod_lt _ hqp
    have hpf1 : (r1 : Int) % (q1.length : Int) = (p1 : Int) := by rw [hp1]; simp
    have ho := apply_enc (base := b) (target := t) (by unfold mostLen; omega) (by unfold mostLen; omega) (t.length : Int)
    rw [if_pos (Int.le_refl _), ← e1.out] at ho
    have hq1 : Hid (applyL b (q1.take p1) (t.length : Int) = none) := applyL_cut ho hp1l
    have hq2 : Hid (∀ x, applyL b (q1 ++ [x]) (t.length : Int) = none) := fun x => applyL_more x ho
    obtain ⟨x, ex, jx, jx', ⟨rx, kx, kx'⟩, _, sx⟩ := sl_to (k := p1) (p1 : Int) rfl hr1 (by omega) i1 i2
    rw [← ex.out] at hq1
    clear hp1 ho ex
    go_wp2_with fail
    refine (Apply_calls A b c A1 x c1 (t.length : Int) w1 rb1 (by omega) hc hm rx (by omega) kx (by omega)).mono ?_
    intro e w2 h2
    rw [hq1.out] at h2
    obtain ⟨rfl, hb2⟩ := h2
    have rb2 := rb1.alive hb2
    have hr12 := hr1.alive hb2
    clear sx rx hpf1 hp1l hf1
    go_wp2_with (at_builtin; refine app8 rfl (.tmp 49) (.tmp 50) rfl w2.heap.size _ 0 [] rfl (own_empty w2) w2.heap.size A1 q1.length c1 q1 rfl (hr12.alloc (Nat.le_refl _) _) (by omega) (by simp) ?_)
    intro l4 A4 c4 w4 e4 ho4 hb4 _ _ i5 i6
    have e4l : l4.length = q1.length := by simp [e4.out]
    have E4 := Lib.hid e4l
    have hl4 : l4.length ≤ 1048595 := by omega
    clear e4l
    have hb4' : Below w2.heap.size w2 w4 := ((Below.refl _ _).alloc (Nat.le_refl _) _).trans hb4
    go_wp2_with (at_builtin; refine push8 rfl (.tmp 51) (.tmp 53) rfl w2.heap.size _ l4.length l4 rfl ho4 rfl hk0.1 hk0.2 (by omega) hb4'.size ?_)
    intro x5 l5 A5 c5 w5 hx e5 ho5 hb5 _ _ i7 i8
    have hq5 : Hid (applyL b l5 (t.length : Int) = none) := by unfold Hid; rw [e5.out, e4.out]; exact hq2.out x5
    have hl5 : l5.length ≤ 1048596 := by rw [e5.out, List.length_append, List.length_singleton]; omega
    have hb5' := hb4'.trans hb5
    go_wp2_with fail
    refine (Apply_calls A b c A5 l5 c5 (t.length : Int) w5 (rb2.alive hb5') (by omega) hc hm (Rd.of_own ho5) (by omega) i7 (by omega)).mono ?_
    intro e w6 h6
    rw [hq5.out] at h6
    obtain ⟨rfl, hb6⟩ := h6
    go_wp2_with fail
    go_ret
    exact ⟨rfl, ((hb0.next hb1).next hb2).next (hb5'.next hb6)⟩
end Go.Proofs.Ytpkfkippbanagaa
