/- The walks of the laws PressBack, PressRoom and PressCut. Conditions: lengths below 2^20. -/
import Derived.Test.YtjikoeokmdnciaaPressAwake
namespace Go.Proofs.Ytjikoeokmdnciaa
open Go.RowKit Go.Dol
set_option linter.unusedVariables false

/-- Pressed bytes are opened with any bound. -/
theorem Open_pressed (A : Option Addr) (l b : List UInt8) (c : Nat) (most : Int) (w : World) (hb : b.length ≤ 1048576) (he : Hid (l = pressL b)) (hr : Rd w w.heap.size 1 A l.length (bc l)) (hc : l.length ≤ c) :
    Calls Try.prog 29 #[.slice A l.length c, .int .i64 most] w (RetOpen w (if (b.length : Int) ≤ most then some b else none)) := by
  have hl := pressL_cost b hb
  have e := he.out
  have h0 := open_press (b := b) (by unfold mostLen; omega) most
  rw [← h0]
  rw [← e] at hl ⊢
  refine Open_gen A l c most w hr (by omega) hc fun s r h _ => ?_
  rw [e, pressL, takeNum_num _ _ (by unfold mostNum; omega)] at h
  injection h with h
  injection h with h _
  omega

set_option maxRecDepth 100000 in
set_option maxHeartbeats 400000 in
theorem pressRoom_walk (A : Option Addr) (l : List UInt8) (c : Nat) (most : Int) (w : World) (hr : Rd w w.heap.size 1 A l.length (bc l)) (hc : l.length ≤ c) (hmx : c ≤ maxLen) (hl : l.length ≤ 1048576)
    (hm : (Lit.int .i64 most).wf = true) :
    Calls Try.prog 10 #[.slice A l.length c, .int .i64 most] w fun e w' => e = .returned (.bool true) ∧ Below w.heap.size w w' := by
  clear hm
  go_enter Try.func10, Try.ntmps10
  go_wp2_with fail
  refine (awake_calls w).mono ?_
  rintro e w0 ⟨rfl, hb0⟩
  have s0 := hb0.size
  have r0 := (hr.below hb0).more s0
  go_wp2_with fail
  refine (Press_calls A l c w0 r0 hl hc).mono ?_
  rintro e w1 ⟨q1, A1, c1, e1, rfl, hr1, hb1, i1, i2⟩
  have s1 := hb1.size
  have r1 := (r0.below hb1).more s1
  go_wp2_with fail
  refine (Open_pressed A1 q1 l c1 most w1 hl e1 hr1 i1).mono ?_
  intro e w2 h2
  by_cases hlt : most < (l.length : Int)
  · rw [if_neg (by omega)] at h2
    obtain ⟨rfl, hb2⟩ := h2
    have d1 : decide (most < (l.length : Int)) = true := by simp; omega
    go_wp2_with fail
    go_ret
    exact ⟨rfl, (hb0.next hb1).next hb2⟩
  · rw [if_pos (by omega)] at h2
    obtain ⟨q2, A2, c2, e2, rfl, hr2, hb2, i3, i4⟩ := h2
    have d1 : decide (most < (l.length : Int)) = false := by simp; omega
    go_wp2_with fail
    refine (Same_n A2 q2 q2.length c2 A l l.length c w2 w2.heap.size w1.heap.size hr2 (r1.below hb2) (by unfold Hid; rw [e2.out])).mono ?_
    rintro e w3 ⟨rfl, rfl⟩
    go_wp2_with fail
    go_ret
    exact ⟨rfl, (hb0.next hb1).next hb2⟩

set_option maxRecDepth 100000 in
set_option maxHeartbeats 400000 in
theorem pressBack_walk (A : Option Addr) (l : List UInt8) (c : Nat) (more : Int) (w : World) (hr : Rd w w.heap.size 1 A l.length (bc l)) (hc : l.length ≤ c) (hmx : c ≤ maxLen) (hl : l.length ≤ 1048576)
    (hm : (Lit.int .i64 more).wf = true) :
    Calls Try.prog 7 #[.slice A l.length c, .int .i64 more] w fun e w' => e = .returned (.bool true) ∧ Below w.heap.size w w' := by
  clear hm
  obtain ⟨m, hm1, hm2⟩ := i64_low more 1023 (by omega)
  replace hm2 : bits .and .i64 more 1023 = (m : Int) := hm2
  go_enter Try.func7, Try.ntmps7
  go_wp2_with fail
  refine (awake_calls w).mono ?_
  rintro e w0 ⟨rfl, hb0⟩
  have s0 := hb0.size
  have r0 := (hr.below hb0).more s0
  go_wp2_with fail
  refine (Press_calls A l c w0 r0 hl hc).mono ?_
  rintro e w1 ⟨q1, A1, c1, e1, rfl, hr1, hb1, i1, i2⟩
  have s1 := hb1.size
  have r1 := (r0.below hb1).more s1
  have f1 : IntKind.i64.wrap ((l.length : Int) + (m : Int)) = (l.length : Int) + (m : Int) := IntWalk.i64_in _ (by omega)
  have f2 : IntKind.i64.wrap ((l.length : Int) - 1) = (l.length : Int) - 1 := IntWalk.i64_in _ (by omega)
  go_wp2_with fail
  refine (Open_pressed A1 q1 l c1 _ w1 hl e1 hr1 i1).mono ?_
  intro e w2 h2
  rw [if_pos (by omega)] at h2
  obtain ⟨q2, A2, c2, e2, rfl, hr2, hb2, i3, i4⟩ := h2
  have s2 := hb2.size
  have r2 := (r1.below hb2).more s2
  go_wp2_with fail
  refine (Open_pressed A1 q1 l c1 _ w2 hl e1 ((hr1.below hb2).more s2) i1).mono ?_
  intro e w3 h3
  rw [if_neg (by omega)] at h3
  obtain ⟨rfl, hb3⟩ := h3
  have s3 := hb3.size
  have d1 : decide (1048576 < (l.length : Int)) = false := by simp; omega
  have d1' : ¬ (1048576 < (l.length : Int)) := by omega
  have hcost := pressL_cost l hl
  rw [← e1.out] at hcost
  have fq : (l.length : Int).tdiv 4 = ((l.length / 4 : Nat) : Int) := by rw [Int.tdiv_eq_ediv_of_nonneg (by omega)]; omega
  obtain ⟨t, ht⟩ : ∃ t, t = l.length / 4 := ⟨_, rfl⟩
  rw [← ht] at fq hcost
  have htl : t ≤ 1048576 := by omega
  have HTT := Lib.hid ht
  clear ht
  have f3 : IntKind.i64.wrap (t : Int) = (t : Int) := IntWalk.i64_in _ (by omega)
  have f4 : IntKind.i64.wrap ((l.length : Int) + (t : Int)) = (l.length : Int) + (t : Int) := IntWalk.i64_in _ (by omega)
  have f5 : IntKind.i64.wrap ((l.length : Int) + (t : Int) + 9) = (l.length : Int) + (t : Int) + 9 := IntWalk.i64_in _ (by omega)
  have d2 : decide ((q1.length : Int) ≤ (l.length : Int) + (t : Int) + 9) = true := by simp; omega
  have d2' : (q1.length : Int) ≤ (l.length : Int) + (t : Int) + 9 := by omega
  go_wp2_with fail
  refine (Same_n A2 q2 q2.length c2 A l l.length c w3 w2.heap.size w2.heap.size (hr2.below hb3) (r2.below hb3) (by unfold Hid; rw [e2.out])).mono ?_
  rintro e w4 ⟨rfl, rfl⟩
  go_wp2_with fail
  go_ret
  exact ⟨rfl, ((hb0.next hb1).next hb2).next hb3⟩

set_option maxRecDepth 100000 in
set_option maxHeartbeats 400000 in
theorem pressCut_walk (A : Option Addr) (l : List UInt8) (c : Nat) (at' : Int) (more : Int) (w : World) (hr : Rd w w.heap.size 1 A l.length (bc l)) (hc : l.length ≤ c) (hmx : c ≤ maxLen) (hl : l.length ≤ 1048576)
    (hm : (Lit.int .i64 at').wf = true) (hm2 : (Lit.int .u8 more).wf = true) :
    Calls Try.prog 9 #[.slice A l.length c, .int .i64 at', .int .u8 more] w fun e w' => e = .returned (.bool true) ∧ Below w.heap.size w w' := by
  have hk0 : 0 ≤ more ∧ more < 256 := by
    have h := hm2
    simp [Lit.wf, IntKind.min, IntKind.max, IntKind.signed, IntKind.bits] at h
    omega
  clear hm hm2
  obtain ⟨r1, hr1', hf1⟩ := i64_low at' 65535 (by omega)
  replace hf1 : bits .and .i64 at' 65535 = (r1 : Int) := hf1
  go_enter Try.func9, Try.ntmps9
  go_wp2_with fail
  refine (awake_calls w).mono ?_
  rintro e w0 ⟨rfl, hb0⟩
  have s0 := hb0.size
  have r0 := (hr.below hb0).more s0
  go_wp2_with fail
  refine (Press_calls A l c w0 r0 hl hc).mono ?_
  rintro e w1 ⟨q1, A1, c1, e1, rfl, hr1, hb1, i1, i2⟩
  have hqp : 0 < q1.length := by rw [e1.out]; exact pressL_pos l
  have hcost := pressL_cost l hl
  rw [← e1.out] at hcost
  obtain ⟨p1, hp1⟩ : ∃ p1, p1 = r1 % q1.length := ⟨_, rfl⟩
  have hp1l : p1 < q1.length := by rw [hp1]; exact Nat.mod_lt _ hqp
  have hpf1 : (r1 : Int) % (q1.length : Int) = (p1 : Int) := by rw [hp1]; simp
  have hz1 : ((q1.length : Int) == 0) = false := beq_eq_false_iff_ne.2 (by omega)
  have ho := open_press (b := l) (by unfold mostLen; omega) (l.length : Int)
  rw [if_pos (Int.le_refl _), ← e1.out] at ho
  have hq1 : Hid (openL (q1.take p1) (l.length : Int) = none) := openL_cut ho hp1l
  have hq2 : Hid (∀ x, openL (q1 ++ [x]) (l.length : Int) = none) := fun x => openL_more x ho
  have hrc := hr1.head (k := p1) (by omega)
  have HC := Lib.hid hcost
  have hql : q1.length ≤ 1310729 := by omega
  clear hp1 hqp ho hcost
  go_wp2_with fail
  have hx1 := Open_calls A1 (q1.take p1) c1 (l.length : Int) w1
  have hlt : (q1.take p1).length = p1 := by rw [List.length_take]; omega
  rw [hlt] at hx1
  refine (hx1 hrc (by omega) (by omega) (by omega)).mono ?_
  intro e w2 h2
  rw [hq1.out] at h2
  obtain ⟨rfl, hb2⟩ := h2
  have s2 := hb2.size
  have hr2 := (hr1.below hb2).more s2
  clear hx1 hlt hpf1 hp1l hrc hf1
  go_wp2_with (at_builtin; refine app8 rfl (.tmp 33) (.tmp 34) rfl w2.heap.size _ 0 [] rfl (own_empty w2) w2.heap.size A1 q1.length c1 q1 rfl (hr2.alloc (Nat.le_refl _) _) (by omega) (by simp) ?_)
  intro l3 A3 c3 w3 e3 ho3 hb3 _ _ i3 i4
  have e3l : l3.length = q1.length := by simp [e3.out]
  have E3 := Lib.hid e3l
  have hl3 : l3.length ≤ 1310729 := by omega
  clear e3l
  have hb3' : Below w2.heap.size w2 w3 := ((Below.refl _ _).alloc (Nat.le_refl _) _).trans hb3
  go_wp2_with (at_builtin; refine push8 rfl (.tmp 35) (.tmp 37) rfl w2.heap.size _ l3.length l3 rfl ho3 rfl hk0.1 hk0.2 (by omega) hb3'.size ?_)
  intro d l4 A4 c4 w4 hd e4 ho4 hb4 _ _ i5 i6
  have hq4 : Hid (openL l4 (l.length : Int) = none) := by unfold Hid; rw [e4.out, e3.out]; exact hq2.out d
  have hl4 : l4.length ≤ 1310730 := by rw [e4.out, List.length_append, List.length_singleton]; omega
  go_wp2_with fail
  refine (Open_calls A4 l4 c4 (l.length : Int) w4 (Rd.of_own ho4) (by omega) i5 (by omega)).mono ?_
  intro e w5 h5
  rw [hq4.out] at h5
  obtain ⟨rfl, hb5⟩ := h5
  have hb24 : Below w2.heap.size w2 w4 := hb3'.trans hb4
  go_wp2_with fail
  go_ret
  exact ⟨rfl, (((hb0.next hb1).next hb2).next hb24).next hb5⟩
end Go.Proofs.Ytjikoeokmdnciaa
