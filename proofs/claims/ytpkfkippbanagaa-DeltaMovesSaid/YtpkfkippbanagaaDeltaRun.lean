/- The walks of the laws DeltaRun and DeltaMoves. Conditions: the form's reach. -/
import Derived.Test.YtpkfkippbanagaaDeltaBack
namespace Go.Proofs.Ytpkfkippbanagaa
open Go.RowKit Go.Dol
set_option linter.unusedVariables false

set_option maxRecDepth 100000 in
set_option maxHeartbeats 1600000 in
theorem deltaRun_walk (A : Option Addr) (b : List UInt8) (c : Nat) (at' gone : Int) (A2 : Option Addr) (run : List UInt8) (c2 : Nat) (w : World) (hr : Rd w w.heap.size 1 A b.length (bc b)) (hc : b.length ≤ c) (hm : c ≤ maxLen) (hn : b.length ≤ 140737488351232)
    (hwf0 : (Lit.int .i64 at').wf = true) (hwf : (Lit.int .i64 gone).wf = true)
    (hr2 : Rd w w.heap.size 1 A2 run.length (bc run)) (hc2 : run.length ≤ c2) (hm2 : c2 ≤ maxLen) (hn2 : run.length ≤ 140737488351232) :
    Calls Try.prog 8 #[.slice A b.length c, .int .i64 at', .int .i64 gone, .slice A2 run.length c2] w fun e w' => e = .returned (.bool true) ∧ Below w.heap.size w w' := by
  clear hwf hwf0
  obtain ⟨r1, hr1', hf1⟩ := i64_low at' 1048575 (by omega)
  replace hf1 : bits .and .i64 at' 1048575 = (r1 : Int) := hf1
  obtain ⟨r2, hr2', hf2⟩ := i64_low gone 1048575 (by omega)
  replace hf2 : bits .and .i64 gone 1048575 = (r2 : Int) := hf2
  have f1 : IntKind.i64.wrap ((b.length : Int) + (run.length : Int)) = (b.length : Int) + (run.length : Int) := IntWalk.i64_in _ (by omega)
  have f2 : IntKind.i64.wrap ((b.length : Int) + 1) = (b.length : Int) + 1 := IntWalk.i64_in _ (by omega)
  go_enter Try.func8, Try.ntmps8
  go_wp2_with fail
  refine (awake_calls w).mono ?_
  rintro e w0 ⟨rfl, hb0⟩
  have r0 := hr.alive hb0
  have r02 := hr2.alive hb0
  by_cases hbig : b.length + run.length ≤ 1048576
  · have d1 : decide ((1048576 : Int) < (b.length : Int) + (run.length : Int)) = false := by simp; omega
    have d1' : ¬ (1048576 : Int) < (b.length : Int) + (run.length : Int) := by omega
    obtain ⟨p, hp⟩ : ∃ p, p = r1 % (b.length + 1) := ⟨_, rfl⟩
    have hpl : p ≤ b.length := by have := Nat.mod_lt r1 (show b.length + 1 > 0 by omega); omega
    have hpf : (r1 : Int) % ((b.length : Int) + 1) = (p : Int) := by rw [hp]; simp
    have hz : ((b.length : Int) + 1 == 0) = false := beq_eq_false_iff_ne.2 (by omega)
    have hzp : (0 : Int) < (b.length : Int) + 1 := by omega
    obtain ⟨q, hq, hpq, hqb, hmin⟩ : ∃ q : Nat, q = min b.length (p + r2) ∧ p ≤ q ∧ q ≤ b.length ∧ ∀ w : World, (Builtin.min_ #[3, 3] 3 #[.int .i64 (b.length : Int), .int .i64 ((p : Int) + (r2 : Int))]).run Try.prog w = .ok (.int .i64 (q : Int)) w := by
      by_cases hlt : b.length ≤ p + r2
      · exact ⟨b.length, by omega, hpl, Nat.le_refl _, fun w => by simp [go_sem]; omega⟩
      · refine ⟨p + r2, by omega, by omega, by omega, fun w => ?_⟩
        have h1 : ¬ ((b.length : Int) ≤ (p : Int) + (r2 : Int)) := by omega
        simp [go_sem, h1]
    have f3 : IntKind.i64.wrap ((p : Int) + (r2 : Int)) = (p : Int) + (r2 : Int) := IntWalk.i64_in _ (by omega)
    obtain ⟨x, ex, jx, jx', ⟨rx, kx, kx'⟩, _, sx⟩ := sl_to (k := p) (p : Int) rfl r0 hpl hc hm
    obtain ⟨y, Ay, cy, ey, jy, jy', ⟨ry, ky, ky'⟩, _, _, _, sy⟩ := sl_from (k := q) (q : Int) rfl r0 hqb hc hm
    clear hp hq
    go_wp2_with (at_builtin; refine app8 rfl (.tmp 34) (.tmp 37) rfl w0.heap.size _ 0 [] rfl ⟨by simp [bc], .inl ⟨rfl, rfl⟩⟩ w0.heap.size A x.length c x rfl rx (by omega) (Nat.le_refl _) ?_)
    intro l1 A1 c1 w1 e1 ho1 hb1 _ _ i1 i2
    have l1l : l1.length ≤ 1048576 := by rw [e1.out]; omega
    go_wp2_with (at_builtin; refine app8 rfl (.tmp 39) (.tmp 40) rfl w0.heap.size _ l1.length l1 rfl ho1 w0.heap.size A2 run.length c2 run rfl (r02.below hb1) (by omega) hb1.size ?_)
    intro l2 A2' c2' w2 e2 ho2 hb2 _ _ i3 i4
    have l2l : l2.length ≤ 2097152 := by rw [e2.out, List.length_append]; omega
    have hb02 := hb1.trans hb2
    go_wp2_with (at_builtin; refine app8 rfl (.tmp 42) (.tmp 45) rfl w0.heap.size _ l2.length l2 rfl ho2 w0.heap.size Ay y.length cy y rfl (ry.below hb02) (by omega) hb02.size ?_)
    intro l3 A3 c3 w3 e3 ho3 hb3 _ _ i5 i6
    have e3' : Hid (l3 = b.take p ++ (run ++ b.drop q)) := by unfold Hid; rw [e3.out, e2.out, e1.out, ex.out, ey.out, List.append_assoc]
    have l3l : l3.length ≤ 1048576 := by rw [e3'.out]; simp only [List.length_append, List.length_take, List.length_drop]; omega
    have hb03 := hb02.trans hb3
    have r3 := r0.alive hb03
    have hcost : Hid ((encL b l3).length ≤ run.length + 40) := by unfold Hid; rw [e3'.out]; exact enc_run hpq hqb hbig
    have hself : Hid ((encL b b).length ≤ 13) := enc_self (by omega)
    clear e1 e2 e3 ho1 ho2 hb1 hb2 hb3 sx sy rx ry ex ey e3' hb02
    go_wp2_with fail
    refine (Encode_calls A b c A3 l3 c3 w3 r3 (Rd.of_own ho3) (by omega) l3l hc hm i5 i6).mono ?_
    rintro e w4 ⟨q4, A4, c4, e4, rfl, hr4, hb4, i7, i8⟩
    have h4 : q4.length ≤ run.length + 40 := by rw [e4.out]; exact hcost.out
    have f4 : IntKind.i64.wrap ((run.length : Int) + 40) = (run.length : Int) + 40 := IntWalk.i64_in _ (by omega)
    have d4 : decide ((q4.length : Int) ≤ (run.length : Int) + 40) = true := by simp; omega
    have d4' : (q4.length : Int) ≤ (run.length : Int) + 40 := by omega
    have r4 := r3.alive hb4
    clear h4
    go_wp2_with fail
    refine (Encode_calls A b c A b c w4 r4 r4 (by omega) (by omega) hc hm hc hm).mono ?_
    rintro e w5 ⟨q5, A5, c5, e5, rfl, hr5, hb5, i9, i10⟩
    have h5 : q5.length ≤ 13 := by rw [e5.out]; exact hself.out
    have d5 : decide ((q5.length : Int) ≤ 13) = true := by simp; omega
    have d5' : (q5.length : Int) ≤ 13 := by omega
    go_wp2_with fail
    go_ret
    exact ⟨rfl, ((hb0.next hb03).next hb4).next hb5⟩
  · have d1 : decide ((1048576 : Int) < (b.length : Int) + (run.length : Int)) = true := by simp; omega
    have d1' : (1048576 : Int) < (b.length : Int) + (run.length : Int) := by omega
    go_wp2_with fail
    go_ret
    exact ⟨rfl, hb0⟩

set_option maxRecDepth 100000 in
set_option maxHeartbeats 1600000 in
theorem deltaMoves_walk (A : Option Addr) (b : List UInt8) (c : Nat) (at' : Int) (w : World) (hr : Rd w w.heap.size 1 A b.length (bc b)) (hc : b.length ≤ c) (hm : c ≤ maxLen) (hn : b.length ≤ 140737488351232) (hwf0 : (Lit.int .i64 at').wf = true) :
    Calls Try.prog 10 #[.slice A b.length c, .int .i64 at'] w fun e w' => e = .returned (.bool true) ∧ Below w.heap.size w w' := by
  clear hwf0
  obtain ⟨r1, hr1', hf1⟩ := i64_low at' 1048575 (by omega)
  replace hf1 : bits .and .i64 at' 1048575 = (r1 : Int) := hf1
  have f2 : IntKind.i64.wrap ((b.length : Int) + 1) = (b.length : Int) + 1 := IntWalk.i64_in _ (by omega)
  go_enter Try.func10, Try.ntmps10
  go_wp2_with fail
  refine (awake_calls w).mono ?_
  rintro e w0 ⟨rfl, hb0⟩
  have r0 := hr.alive hb0
  by_cases hbig : b.length ≤ 100000
  · have d1 : decide ((100000 : Int) < (b.length : Int)) = false := by simp; omega
    have d1' : ¬ (100000 : Int) < (b.length : Int) := by omega
    obtain ⟨p, hp⟩ : ∃ p, p = r1 % (b.length + 1) := ⟨_, rfl⟩
    have hpl : p ≤ b.length := by have := Nat.mod_lt r1 (show b.length + 1 > 0 by omega); omega
    have hpf : (r1 : Int) % ((b.length : Int) + 1) = (p : Int) := by rw [hp]; simp
    have hz : ((b.length : Int) + 1 == 0) = false := beq_eq_false_iff_ne.2 (by omega)
    have hzp : (0 : Int) < (b.length : Int) + 1 := by omega
    obtain ⟨x, ex, jx, jx', ⟨rx, kx, kx'⟩, _, sx⟩ := sl_to (k := p) (p : Int) rfl r0 hpl hc hm
    obtain ⟨y, Ay, cy, ey, jy, jy', ⟨ry, ky, ky'⟩, _, _, _, sy⟩ := sl_from (k := p) (p : Int) rfl r0 hpl hc hm
    clear hp
    go_wp2_with (at_builtin; refine app8 rfl (.tmp 25) (.tmp 28) rfl w0.heap.size _ 0 [] rfl ⟨by simp [bc], .inl ⟨rfl, rfl⟩⟩ w0.heap.size Ay y.length cy y rfl ry (by omega) (Nat.le_refl _) ?_)
    intro l1 A1 c1 w1 e1 ho1 hb1 _ _ i1 i2
    have l1l : l1.length = y.length := by rw [e1.out]
    have L1 := Lib.hid l1l
    have l1n : l1.length ≤ 100000 := by omega
    clear l1l
    go_wp2_with (at_builtin; refine app8 rfl (.tmp 30) (.tmp 33) rfl w0.heap.size _ l1.length l1 rfl ho1 w0.heap.size A x.length c x rfl (rx.below hb1) (by omega) hb1.size ?_)
    intro l2 A2 c2 w2 e2 ho2 hb2 _ _ i3 i4
    have l2l : Hid (l2.length = b.length) := by unfold Hid; rw [e2.out, List.length_append, L1.out]; omega
    have l2n : l2.length ≤ 100000 := by rw [l2l.out]; exact hbig
    have hb02 := hb1.trans hb2
    have r2 := r0.alive hb02
    have hr2 := Rd.of_own ho2
    clear e1 e2 ho1 hb1 hb2 sx sy rx ry ex ey
    go_wp2_with fail
    refine (Encode_calls A b c A2 l2 c2 w2 r2 hr2 (by omega) (by omega) hc hm i3 i4).mono ?_
    rintro e w3 ⟨q3, A3, c3, e3, rfl, hr3, hb3, i5, i6⟩
    have r3 := r2.alive hb3
    have hr23 := hr2.alive hb3
    go_wp2_with fail
    refine (Apply_enc A b l2 c A3 q3 c3 (b.length : Int) w3 e3 r3 (by omega) (by omega) hc hm hr3 i5).mono ?_
    intro e w4 h4
    rw [if_pos (by rw [l2l.out]; exact Int.le_refl _)] at h4
    obtain ⟨q4, A4, c4, e4, rfl, hr4, hb4, i7, i8⟩ := h4
    have r4 := r3.alive hb4
    have hr24 := hr23.alive hb4
    go_wp2_with fail
    refine (Encode_calls A2 l2 c2 A b c w4 hr24 r4 (by omega) (by omega) i3 i4 hc hm).mono ?_
    rintro e w5 ⟨q5, A5, c5, e5, rfl, hr5, hb5, i9, i10⟩
    have r5 := r4.alive hb5
    have hr25 := hr24.alive hb5
    go_wp2_with fail
    refine (Apply_enc A2 l2 b c2 A5 q5 c5 (b.length : Int) w5 e5 hr25 (by omega) (by omega) i3 i4 hr5 i9).mono ?_
    intro e w6 h6
    rw [if_pos (Int.le_refl _)] at h6
    obtain ⟨q6, A6, c6, e6, rfl, hr6, hb6, i11, i12⟩ := h6
    have r6 := r5.alive hb6
    have hr26 := hr25.alive hb6
    have hr46 := (hr4.alive hb5).alive hb6
    go_wp2_with fail
    refine (Same_n A4 q4 q4.length c4 A2 l2 l2.length c2 w6 w6.heap.size w6.heap.size hr46 hr26 (by unfold Hid; rw [e4.out])).mono ?_
    rintro e w7 ⟨rfl, rfl⟩
    go_wp2_with fail
    refine (Same_n A6 q6 q6.length c6 A b b.length c w6 w6.heap.size w6.heap.size hr6 r6 (by unfold Hid; rw [e6.out])).mono ?_
    rintro e w8 ⟨rfl, rfl⟩
    go_wp2_with fail
    go_ret
    exact ⟨rfl, ((((hb0.next hb02).next hb3).next hb4).next hb5).next hb6⟩
  · have d1 : decide ((100000 : Int) < (b.length : Int)) = true := by simp; omega
    have d1' : (100000 : Int) < (b.length : Int) := by omega
    go_wp2_with fail
    go_ret
    exact ⟨rfl, hb0⟩
end Go.Proofs.Ytpkfkippbanagaa
