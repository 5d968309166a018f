/- The walk of the law DiskRefused. Conditions: at most 2^47 commands. -/
import Derived.Test.YtogjlfpoedeooaaPlayed
import Derived.Test.YtogjlfpoedeooaaCutsLaw
namespace Go.Dol
open Go.RowKit
set_option linter.unusedVariables false
/-- A command is refused ahead of any raw write, or is one. -/
theorem op_form2 (q : Int) (a b : ByteArray) (l : List UInt8) (D : Dk) :
    (∃ k, opOf q a b l D = (k, D) ∧ k ≠ 0 ∧ (k = 5 → D.dark = true)) ∨ (D.dark = false ∧ ∃ l', opOf q a b l D = spendD D l') := by
  have ht : ∀ n, (touchD D n ≠ 0 ∧ (touchD D n = 5 → D.dark = true)) ∨ (touchD D n = 0 ∧ D.dark = false) := by
    intro n
    unfold touchD
    by_cases h1 : nameB n = false
    · rw [if_pos h1]; exact .inl ⟨by decide, fun h => by cases h⟩
    · rw [if_neg h1]
      cases hd : D.dark with
      | true => rw [if_pos rfl]; exact .inl ⟨by decide, fun _ => rfl⟩
      | false =>
        rw [if_neg (by decide)]
        by_cases h2 : (lookF D.l n).isSome = true
        · rw [if_pos h2]; exact .inr ⟨rfl, rfl⟩
        · rw [if_neg h2]; exact .inl ⟨by decide, fun h => by cases h⟩
  have hroom : ∀ (k : Int) (l' : List Fil), D.dark = false → (∃ j, roomD D k l' = (j, D) ∧ j ≠ 0 ∧ (j = 5 → D.dark = true)) ∨ (D.dark = false ∧ ∃ l2, roomD D k l' = spendD D l2) := by
    intro k l' hd
    unfold roomD
    split
    · exact .inl ⟨4, rfl, by decide, fun h => by cases h⟩
    · exact .inr ⟨hd, l', rfl⟩
  unfold opOf
  by_cases q0 : q = 0
  · rw [if_pos q0]
    unfold appD
    by_cases c1 : 64 < l.length ∨ nameB a = false
    · rw [if_pos c1]; exact .inl ⟨1, rfl, by decide, fun h => by cases h⟩
    · rw [if_neg c1]
      cases hd : D.dark with
      | true => rw [if_pos rfl]; exact .inl ⟨5, rfl, by decide, fun _ => rfl⟩
      | false =>
        rw [if_neg (by decide)]
        have h1 := hroom (appMore D a l) (putF D.l a ((lookF D.l a).getD [] ++ l)) hd
        rw [hd] at h1
        exact h1
  · rw [if_neg q0]
    by_cases q1 : q = 1
    · rw [if_pos q1]
      unfold remD
      rcases ht a with ⟨h1, h2⟩ | ⟨h1, h2⟩
      · rw [if_pos h1]; exact .inl ⟨_, rfl, h1, h2⟩
      · rw [if_neg (by rw [h1]; simp)]; exact .inr ⟨h2, _, rfl⟩
    · rw [if_neg q1]
      by_cases q2 : q = 2
      · rw [if_pos q2]
        unfold renD
        split
        · exact .inl ⟨1, rfl, by decide, fun h => by cases h⟩
        · rcases ht a with ⟨h1, h2⟩ | ⟨h1, h2⟩
          · rw [if_pos h1]; exact .inl ⟨_, rfl, h1, h2⟩
          · rw [if_neg (by rw [h1]; simp)]; exact hroom _ _ h2
      · rw [if_neg q2]
        unfold syncD
        rcases ht a with ⟨h1, h2⟩ | ⟨h1, h2⟩
        · rw [if_pos h1]; exact .inl ⟨_, rfl, h1, h2⟩
        · rw [if_neg (by rw [h1]; simp)]; exact .inr ⟨h2, _, rfl⟩
theorem refused_law {q : Int} {a b : ByteArray} {l : List UInt8} {D D' : Dk} {ec : Int} (h : opOf q a b l D = (ec, D')) :
    (ec = 0 ∧ D'.done = D.done + 1 ∧ D'.dark = false) ∨ (ec ≠ 0 ∧ D'.l = D.l ∧ D'.cap = D.cap ∧ D'.done = D.done ∧ (ec = 5 → D'.dark = true)) := by
  rcases op_form2 q a b l D with ⟨k, h1, h2, h3⟩ | ⟨hd, l', h1⟩
  · rw [h] at h1
    injection h1 with h4 h5
    subst h4 h5
    exact .inr ⟨h2, rfl, rfl, rfl, h3⟩
  · rw [h] at h1
    unfold spendD at h1
    split at h1
    · injection h1 with h4 h5
      subst h4 h5
      exact .inr ⟨by decide, rfl, rfl, rfl, fun _ => rfl⟩
    · injection h1 with h4 h5
      subst h4 h5
      exact .inl ⟨rfl, rfl, hd⟩
end Go.Dol
namespace Go.Proofs.Ytogjlfpoedeooaa
open Go.RowKit Go.Dol
set_option linter.unusedVariables false
set_option maxRecDepth 100000 in
set_option maxHeartbeats 16000000 in
theorem diskRefused_walk (cap : Int) (As : Option Addr) (s : List OpA) (cs : Nat) (x : OpA) (w : World) (hcw : (Lit.int .i64 cap).wf = true) (hr : Rd w w.heap.size 5 As s.length (oc s)) (HOx : Ops8 w w.heap.size s) (hsl : s.length ≤ 140737488355328) (hx8 : Ops8 w w.heap.size [x]) :
    Calls Try.prog 10 #[.int .i64 cap, .slice As s.length cs, .agg #[.int .i64 x.k, .string x.a, .string x.b, .slice x.A x.l.length x.c, .int .i64 x.n]] w fun e w' => e = .returned (.bool true) ∧ Below w.heap.size w w' := by
  clear hcw
  obtain ⟨⟨hff, hfc⟩, x1, x2, _, _⟩ := hx8 x (List.mem_singleton.2 rfl)
  obtain ⟨xk, xa, xb, xl, xA, xc, xn⟩ := x
  simp only at hff hfc x1 x2 ⊢
  clear hx8
  have hX := Blk.new w 56 [.int .i64 xk, .string xa, .string xb, .slice xA xl.length xc, .int .i64 xn]
  have hbX := (Below.refl w.heap.size w).alloc (Nat.le_refl _) (.cells #[.int .i64 xk, .string xa, .string xb, .slice xA xl.length xc, .int .i64 xn] 56)
  obtain ⟨W0, hW0⟩ : ∃ W, W = w.alloc (.cells #[.int .i64 xk, .string xa, .string xb, .slice xA xl.length xc, .int .i64 xn] 56) := ⟨_, rfl⟩
  have hX0 : Blk W0 w.heap.size 56 [.int .i64 xk, .string xa, .string xb, .slice xA xl.length xc, .int .i64 xn] := by rw [hW0]; exact hX
  have hbX0 : Below w.heap.size w W0 := by rw [hW0]; exact hbX
  have hxl := hX0.lt
  have hAw := awake4_calls W0
  obtain ⟨cap', hcap⟩ : ∃ c, bits .and .i64 cap 1048575 = c := ⟨_, rfl⟩
  go_enter Try.func10, Try.ntmps10
  go_wp2_with fail
  rw [← hW0]
  clear hW0 hX hbX
  refine hAw.mono ?_
  rintro e w1 ⟨rfl, hb1⟩
  clear hAw
  have hb01 := hbX0.next hb1
  have HPl := Lib.hid (played_calls cap cap' hcap As s cs w1 ((hr.belowW hb01 (Nat.le_refl _)).more hb01.size) (fun x hx => ⟨⟨((HOx.below hb01) x hx).1.1.more hb01.size, (HOx x hx).1.2⟩, (HOx x hx).2⟩) hsl)
  clear hr HOx hcap
  go_wp2_with fail
  refine HPl.out.mono ?_
  rintro e w2 ⟨g, m, D, rfl, hK, hDc, hA2, hg2, hm2, hb2⟩
  have hb02 := hb01.next hb2
  have hs1 := hb1.size
  have hs2 := hb2.size
  have hg : w.heap.size ≤ g := by omega
  have hm : w.heap.size ≤ m := by omega
  have hxg : w.heap.size ≠ g := by omega
  have hxm : w.heap.size ≠ m := by omega
  have hX2 := (hX0.below hb1 hX0.lt).below hb2 (by omega)
  have hf2 := hff.below hb02
  clear hX0 hff
  have HDu := Lib.hid (Dump_calls hA2 hK)
  go_wp2_with fail
  refine HDu.out.mono ?_
  rintro e w4 ⟨gs, A4, c4, hgs, rfl, ho4, hF4, hb4⟩
  have hA4 := hA2.below hb4
  have hb04 := hb02.next hb4
  have hgl : gs.length ≤ 68719476736 := by have h1 := congrArg List.length hgs.out; rw [List.length_map] at h1; have := hK.lenD; omega
  have HTh := Lib.hid (Theirs_calls A4 gs c4 w4 (Rd.of_own ho4) (by omega))
  go_wp2_with fail
  refine HTh.out.mono ?_
  rintro e w5 ⟨ys, A5, c5, hys, rfl, ho5, hb5⟩
  have hA5 := hA4.below hb5
  have hb05 := hb04.next hb5
  have hyl : ys.length ≤ 68719476736 := by rw [hys.out]; exact hgl
  have hF5 : Fls8 w5 0 ys := by rw [hys.out]; exact hF4.below hb5
  have HYS : Hid (ys.map FilA.f = D.l) := by unfold Hid; rw [hys.out, hgs.out]
  have hX5 := (hX2.below hb4 hX2.lt).below hb5 (Nat.lt_of_lt_of_le hX2.lt hb4.size)
  have hf5 := (hf2.below hb4).below hb5
  obtain ⟨od, hod⟩ : ∃ od, od = opsD D.done := ⟨_, rfl⟩
  obtain ⟨fr, hfr⟩ : ∃ fr, fr = frD D := ⟨_, rfl⟩
  have hOp := Ops_calls hA5
  have hFr := Free_calls hA5
  rw [← hod] at hOp
  rw [← hfr] at hFr
  have HOp := Lib.hid hOp
  have HFr := Lib.hid hFr
  have HOD := Lib.hid hod
  have HFR := Lib.hid hfr
  have hq3 := mask_rng xk 2 3 rfl (by omega)
  have hq4 : bits .and .i64 xk 3 = 0 ∨ bits .and .i64 xk 3 = 1 ∨ bits .and .i64 xk 3 = 2 ∨ bits .and .i64 xk 3 = 3 := by omega
  have k0 : w5.cell? ⟨w.heap.size, 0, none⟩ = some (.int .i64 xk) := by rw [hX5.cell]; rfl
  have k1 : w5.cell? ⟨w.heap.size, 1, none⟩ = some (.string xa) := by rw [hX5.cell]; rfl
  have k2 : w5.cell? ⟨w.heap.size, 2, none⟩ = some (.string xb) := by rw [hX5.cell]; rfl
  have k3 : w5.cell? ⟨w.heap.size, 3, none⟩ = some (.slice xA xl.length xc) := by rw [hX5.cell]; rfl
  clear hOp hFr hod hfr hq3 hX2 hX5
  rcases hq4 with hq | hq | hq | hq
  · obtain ⟨ec, D', hea⟩ : ∃ e E, appD D xa xl = (e, E) := ⟨_, _, rfl⟩
    have hK' : OkD D' := by have h1 := hK.app xa xl; rw [hea] at h1; exact h1
    have hLw := refused_law (q := 0) (a := xa) (b := xb) (l := xl) hea
    have hO := Append_calls hA5 hK xa x1 w.heap.size xA xl xc hf5 hg
    rw [hea] at hO
    have HO := Lib.hid hO
    clear hO hea
    go_wp2_with (first
      | (go_at_call 21; (with_reducible refine HOp.out.mono ?_); rintro e z0 ⟨rfl, hz0⟩; obtain rfl := hz0.symm)
      | (go_at_call 16; (with_reducible refine HFr.out.mono ?_); rintro e z0 ⟨rfl, hz0⟩; obtain rfl := hz0.symm))
    refine HO.out.mono ?_
    rintro e w6 ⟨rfl, hA6, ht6⟩
    have hb6 := Tw.new hb05 ht6 hg hm
    have ho6 := own_tw hA5 ht6 ho5 (by decide)
    have hF6 := hF5.tw hA5 ht6
    clear k0 k1 k2 k3 hq
    rcases hLw with ⟨rfl, h2, h3⟩ | ⟨h1, h2, h3, h4, h5⟩
    · have hOp2 := Ops_calls hA6
      have hFr2 := Free_calls hA6
      have hOf2 := Off_calls hA6
      have hop2 : opsD D'.done = opsD (D.done + 1) := by rw [h2]
      obtain ⟨od2, hod2⟩ : ∃ od2, od2 = opsD D'.done := ⟨_, rfl⟩
      obtain ⟨fr2, hfr2⟩ : ∃ fr2, fr2 = frD D' := ⟨_, rfl⟩
      rw [← hod2] at hOp2
      rw [← hfr2] at hFr2
      rw [h3] at hOf2
      have g2 : IntKind.i64.wrap (od + 1) = od2 := by rw [hod2, hop2, HOD.out]; exact opsD_next _
      have hf0 : 0 ≤ fr2 := by rw [hfr2, hK'.free]; have := hK'.room; omega
      have d2 : decide (fr2 ≥ 0) = true := decide_eq_true hf0
      have d2' : decide (0 ≤ fr2) = true := decide_eq_true hf0
      have HOp2 := Lib.hid hOp2
      have HFr2 := Lib.hid hFr2
      have HOf2 := Lib.hid hOf2
      clear hOp2 hFr2 hOf2 h2 h3 hop2 hod2 hfr2 hf0
      go_wp2_with (first
        | (go_at_call 21; (with_reducible refine HOp2.out.mono ?_); rintro e z0 ⟨rfl, hz0⟩; obtain rfl := hz0.symm)
        | (go_at_call 16; (with_reducible refine HFr2.out.mono ?_); rintro e z0 ⟨rfl, hz0⟩; obtain rfl := hz0.symm)
        | (go_at_call 35; (with_reducible refine HOf2.out.mono ?_); rintro e z0 ⟨rfl, hz0⟩; obtain rfl := hz0.symm))
      go_ret
      exact ⟨rfl, hb6⟩
    · have hnz : (ec == 0) = false := beq_eq_false_iff_ne.2 h1
      have H2 := Lib.hid h2
      have hfe : frD D' = frD D := by unfold frD; rw [h2, h3]
      have HOP : Hid (opsD D'.done = od) := by unfold Hid; rw [h4]; exact HOD.out.symm
      have HFE : Hid (frD D' = fr) := by unfold Hid; rw [hfe]; exact HFR.out.symm
      have HDu2 := Lib.hid (Dump_calls hA6 hK')
      have H5 := Lib.hid h5
      clear h1 h2 h3 h4 h5 hfe
      go_wp2_with fail
      refine HDu2.out.mono ?_
      rintro e w8 ⟨gs2, A8, c8, hgs2, rfl, ho8, hF8, hb8⟩
      have hb08 := hb6.next hb8
      have hA8 := hA6.below hb8
      have hgl2 : gs2.length ≤ 68719476736 := by have h1 := congrArg List.length hgs2.out; rw [List.length_map] at h1; have := hK'.lenD; omega
      have HTh2 := Lib.hid (Theirs_calls A8 gs2 c8 w8 (Rd.of_own ho8) (by omega))
      go_wp2_with fail
      refine HTh2.out.mono ?_
      rintro e w9 ⟨zs, A9, c9, hzs, rfl, ho9, hb9⟩
      have hb09 := hb08.next hb9
      have hzl : zs.length ≤ 68719476736 := by rw [hzs.out]; exact hgl2
      have hF9 : Fls8 w9 0 zs := by rw [hzs.out]; exact hF8.below hb9
      have HSM : Hid (ys.map FilA.f = zs.map FilA.f) := by unfold Hid; rw [HYS.out, hzs.out, hgs2.out, H2.out]
      have HSm := Lib.hid (SameFiles_calls A5 ys c5 A9 zs c9 w9 _ _ _ _ (Rd.of_own (own_belowW (own_belowW ho6 hb8) hb9)) (Rd.of_own ho9) ((hF6.below hb8).below hb9) hF9 (by omega) (by omega))
      go_wp2_with fail
      refine HSm.out.mono ?_
      rintro e w10 ⟨u, nq, rfl, hu, hz10⟩
      obtain rfl : u = true := hu.2 HSM.out
      clear hu
      have hb10 : Below w9.heap.size w9 w10 := by rw [hz10]; exact (Below.refl _ _).drewN' nq
      clear hz10
      have hA10 := (hA8.below hb9).below hb10
      have hOp2 := Ops_calls hA10
      have hFr2 := Free_calls hA10
      have hOf2 := Off_calls hA10
      rw [HOP.out] at hOp2
      rw [HFE.out] at hFr2
      have HOp2 := Lib.hid hOp2
      have HFr2 := Lib.hid hFr2
      clear hOp2 hFr2
      by_cases h6 : ec = 5
      · rw [H5.out h6] at hOf2
        have HOf2 := Lib.hid hOf2
        subst h6
        clear hOf2
        go_wp2_with (first
          | (go_at_call 21; (with_reducible refine HOp2.out.mono ?_); rintro e z0 ⟨rfl, hz0⟩; obtain rfl := hz0.symm)
          | (go_at_call 16; (with_reducible refine HFr2.out.mono ?_); rintro e z0 ⟨rfl, hz0⟩; obtain rfl := hz0.symm)
          | (go_at_call 35; (with_reducible refine HOf2.out.mono ?_); rintro e z0 ⟨rfl, hz0⟩; obtain rfl := hz0.symm))
        go_ret
        exact ⟨rfl, hb09.next hb10⟩
      · have hn5 : (ec == 5) = false := beq_eq_false_iff_ne.2 h6
        have hn5b : (ec != 5) = true := by unfold bne; rw [hn5]; rfl
        clear hOf2 h6
        go_wp2_with (first
          | (go_at_call 21; (with_reducible refine HOp2.out.mono ?_); rintro e z0 ⟨rfl, hz0⟩; obtain rfl := hz0.symm)
          | (go_at_call 16; (with_reducible refine HFr2.out.mono ?_); rintro e z0 ⟨rfl, hz0⟩; obtain rfl := hz0.symm))
        go_ret
        exact ⟨rfl, hb09.next hb10⟩
  · obtain ⟨ec, D', hea⟩ : ∃ e E, remD D xa = (e, E) := ⟨_, _, rfl⟩
    have hK' : OkD D' := by have h1 := hK.rem xa; rw [hea] at h1; exact h1
    have hLw := refused_law (q := 1) (a := xa) (b := xb) (l := xl) hea
    have hO := Remove_calls hA5 hK xa x1
    rw [hea] at hO
    have HO := Lib.hid hO
    clear hO hea
    go_wp2_with (first
      | (go_at_call 21; (with_reducible refine HOp.out.mono ?_); rintro e z0 ⟨rfl, hz0⟩; obtain rfl := hz0.symm)
      | (go_at_call 16; (with_reducible refine HFr.out.mono ?_); rintro e z0 ⟨rfl, hz0⟩; obtain rfl := hz0.symm))
    refine HO.out.mono ?_
    rintro e w6 ⟨rfl, hA6, ht6⟩
    have hb6 := Tw.new hb05 ht6 hg hm
    have ho6 := own_tw hA5 ht6 ho5 (by decide)
    have hF6 := hF5.tw hA5 ht6
    clear k0 k1 k2 k3 hq
    rcases hLw with ⟨rfl, h2, h3⟩ | ⟨h1, h2, h3, h4, h5⟩
    · have hOp2 := Ops_calls hA6
      have hFr2 := Free_calls hA6
      have hOf2 := Off_calls hA6
      have hop2 : opsD D'.done = opsD (D.done + 1) := by rw [h2]
      obtain ⟨od2, hod2⟩ : ∃ od2, od2 = opsD D'.done := ⟨_, rfl⟩
      obtain ⟨fr2, hfr2⟩ : ∃ fr2, fr2 = frD D' := ⟨_, rfl⟩
      rw [← hod2] at hOp2
      rw [← hfr2] at hFr2
      rw [h3] at hOf2
      have g2 : IntKind.i64.wrap (od + 1) = od2 := by rw [hod2, hop2, HOD.out]; exact opsD_next _
      have hf0 : 0 ≤ fr2 := by rw [hfr2, hK'.free]; have := hK'.room; omega
      have d2 : decide (fr2 ≥ 0) = true := decide_eq_true hf0
      have d2' : decide (0 ≤ fr2) = true := decide_eq_true hf0
      have HOp2 := Lib.hid hOp2
      have HFr2 := Lib.hid hFr2
      have HOf2 := Lib.hid hOf2
      clear hOp2 hFr2 hOf2 h2 h3 hop2 hod2 hfr2 hf0
      go_wp2_with (first
        | (go_at_call 21; (with_reducible refine HOp2.out.mono ?_); rintro e z0 ⟨rfl, hz0⟩; obtain rfl := hz0.symm)
        | (go_at_call 16; (with_reducible refine HFr2.out.mono ?_); rintro e z0 ⟨rfl, hz0⟩; obtain rfl := hz0.symm)
        | (go_at_call 35; (with_reducible refine HOf2.out.mono ?_); rintro e z0 ⟨rfl, hz0⟩; obtain rfl := hz0.symm))
      go_ret
      exact ⟨rfl, hb6⟩
    · have hnz : (ec == 0) = false := beq_eq_false_iff_ne.2 h1
      have H2 := Lib.hid h2
      have hfe : frD D' = frD D := by unfold frD; rw [h2, h3]
      have HOP : Hid (opsD D'.done = od) := by unfold Hid; rw [h4]; exact HOD.out.symm
      have HFE : Hid (frD D' = fr) := by unfold Hid; rw [hfe]; exact HFR.out.symm
      have HDu2 := Lib.hid (Dump_calls hA6 hK')
      have H5 := Lib.hid h5
      clear h1 h2 h3 h4 h5 hfe
      go_wp2_with fail
      refine HDu2.out.mono ?_
      rintro e w8 ⟨gs2, A8, c8, hgs2, rfl, ho8, hF8, hb8⟩
      have hb08 := hb6.next hb8
      have hA8 := hA6.below hb8
      have hgl2 : gs2.length ≤ 68719476736 := by have h1 := congrArg List.length hgs2.out; rw [List.length_map] at h1; have := hK'.lenD; omega
      have HTh2 := Lib.hid (Theirs_calls A8 gs2 c8 w8 (Rd.of_own ho8) (by omega))
      go_wp2_with fail
      refine HTh2.out.mono ?_
      rintro e w9 ⟨zs, A9, c9, hzs, rfl, ho9, hb9⟩
      have hb09 := hb08.next hb9
      have hzl : zs.length ≤ 68719476736 := by rw [hzs.out]; exact hgl2
      have hF9 : Fls8 w9 0 zs := by rw [hzs.out]; exact hF8.below hb9
      have HSM : Hid (ys.map FilA.f = zs.map FilA.f) := by unfold Hid; rw [HYS.out, hzs.out, hgs2.out, H2.out]
      have HSm := Lib.hid (SameFiles_calls A5 ys c5 A9 zs c9 w9 _ _ _ _ (Rd.of_own (own_belowW (own_belowW ho6 hb8) hb9)) (Rd.of_own ho9) ((hF6.below hb8).below hb9) hF9 (by omega) (by omega))
      go_wp2_with fail
      refine HSm.out.mono ?_
      rintro e w10 ⟨u, nq, rfl, hu, hz10⟩
      obtain rfl : u = true := hu.2 HSM.out
      clear hu
      have hb10 : Below w9.heap.size w9 w10 := by rw [hz10]; exact (Below.refl _ _).drewN' nq
      clear hz10
      have hA10 := (hA8.below hb9).below hb10
      have hOp2 := Ops_calls hA10
      have hFr2 := Free_calls hA10
      have hOf2 := Off_calls hA10
      rw [HOP.out] at hOp2
      rw [HFE.out] at hFr2
      have HOp2 := Lib.hid hOp2
      have HFr2 := Lib.hid hFr2
      clear hOp2 hFr2
      by_cases h6 : ec = 5
      · rw [H5.out h6] at hOf2
        have HOf2 := Lib.hid hOf2
        subst h6
        clear hOf2
        go_wp2_with (first
          | (go_at_call 21; (with_reducible refine HOp2.out.mono ?_); rintro e z0 ⟨rfl, hz0⟩; obtain rfl := hz0.symm)
          | (go_at_call 16; (with_reducible refine HFr2.out.mono ?_); rintro e z0 ⟨rfl, hz0⟩; obtain rfl := hz0.symm)
          | (go_at_call 35; (with_reducible refine HOf2.out.mono ?_); rintro e z0 ⟨rfl, hz0⟩; obtain rfl := hz0.symm))
        go_ret
        exact ⟨rfl, hb09.next hb10⟩
      · have hn5 : (ec == 5) = false := beq_eq_false_iff_ne.2 h6
        have hn5b : (ec != 5) = true := by unfold bne; rw [hn5]; rfl
        clear hOf2 h6
        go_wp2_with (first
          | (go_at_call 21; (with_reducible refine HOp2.out.mono ?_); rintro e z0 ⟨rfl, hz0⟩; obtain rfl := hz0.symm)
          | (go_at_call 16; (with_reducible refine HFr2.out.mono ?_); rintro e z0 ⟨rfl, hz0⟩; obtain rfl := hz0.symm))
        go_ret
        exact ⟨rfl, hb09.next hb10⟩
  · obtain ⟨ec, D', hea⟩ : ∃ e E, renD D xa xb = (e, E) := ⟨_, _, rfl⟩
    have hK' : OkD D' := by have h1 := hK.ren xa xb; rw [hea] at h1; exact h1
    have hLw := refused_law (q := 2) (a := xa) (b := xb) (l := xl) hea
    have hO := Rename_calls hA5 hK xa xb x1 x2
    rw [hea] at hO
    have HO := Lib.hid hO
    clear hO hea
    go_wp2_with (first
      | (go_at_call 21; (with_reducible refine HOp.out.mono ?_); rintro e z0 ⟨rfl, hz0⟩; obtain rfl := hz0.symm)
      | (go_at_call 16; (with_reducible refine HFr.out.mono ?_); rintro e z0 ⟨rfl, hz0⟩; obtain rfl := hz0.symm))
    refine HO.out.mono ?_
    rintro e w6 ⟨rfl, hA6, ht6⟩
    have hb6 := Tw.new hb05 ht6 hg hm
    have ho6 := own_tw hA5 ht6 ho5 (by decide)
    have hF6 := hF5.tw hA5 ht6
    clear k0 k1 k2 k3 hq
    rcases hLw with ⟨rfl, h2, h3⟩ | ⟨h1, h2, h3, h4, h5⟩
    · have hOp2 := Ops_calls hA6
      have hFr2 := Free_calls hA6
      have hOf2 := Off_calls hA6
      have hop2 : opsD D'.done = opsD (D.done + 1) := by rw [h2]
      obtain ⟨od2, hod2⟩ : ∃ od2, od2 = opsD D'.done := ⟨_, rfl⟩
      obtain ⟨fr2, hfr2⟩ : ∃ fr2, fr2 = frD D' := ⟨_, rfl⟩
      rw [← hod2] at hOp2
      rw [← hfr2] at hFr2
      rw [h3] at hOf2
      have g2 : IntKind.i64.wrap (od + 1) = od2 := by rw [hod2, hop2, HOD.out]; exact opsD_next _
      have hf0 : 0 ≤ fr2 := by rw [hfr2, hK'.free]; have := hK'.room; omega
      have d2 : decide (fr2 ≥ 0) = true := decide_eq_true hf0
      have d2' : decide (0 ≤ fr2) = true := decide_eq_true hf0
      have HOp2 := Lib.hid hOp2
      have HFr2 := Lib.hid hFr2
      have HOf2 := Lib.hid hOf2
      clear hOp2 hFr2 hOf2 h2 h3 hop2 hod2 hfr2 hf0
      go_wp2_with (first
        | (go_at_call 21; (with_reducible refine HOp2.out.mono ?_); rintro e z0 ⟨rfl, hz0⟩; obtain rfl := hz0.symm)
        | (go_at_call 16; (with_reducible refine HFr2.out.mono ?_); rintro e z0 ⟨rfl, hz0⟩; obtain rfl := hz0.symm)
        | (go_at_call 35; (with_reducible refine HOf2.out.mono ?_); rintro e z0 ⟨rfl, hz0⟩; obtain rfl := hz0.symm))
      go_ret
      exact ⟨rfl, hb6⟩
    · have hnz : (ec == 0) = false := beq_eq_false_iff_ne.2 h1
      have H2 := Lib.hid h2
      have hfe : frD D' = frD D := by unfold frD; rw [h2, h3]
      have HOP : Hid (opsD D'.done = od) := by unfold Hid; rw [h4]; exact HOD.out.symm
      have HFE : Hid (frD D' = fr) := by unfold Hid; rw [hfe]; exact HFR.out.symm
      have HDu2 := Lib.hid (Dump_calls hA6 hK')
      have H5 := Lib.hid h5
      clear h1 h2 h3 h4 h5 hfe
      go_wp2_with fail
      refine HDu2.out.mono ?_
      rintro e w8 ⟨gs2, A8, c8, hgs2, rfl, ho8, hF8, hb8⟩
      have hb08 := hb6.next hb8
      have hA8 := hA6.below hb8
      have hgl2 : gs2.length ≤ 68719476736 := by have h1 := congrArg List.length hgs2.out; rw [List.length_map] at h1; have := hK'.lenD; omega
      have HTh2 := Lib.hid (Theirs_calls A8 gs2 c8 w8 (Rd.of_own ho8) (by omega))
      go_wp2_with fail
      refine HTh2.out.mono ?_
      rintro e w9 ⟨zs, A9, c9, hzs, rfl, ho9, hb9⟩
      have hb09 := hb08.next hb9
      have hzl : zs.length ≤ 68719476736 := by rw [hzs.out]; exact hgl2
      have hF9 : Fls8 w9 0 zs := by rw [hzs.out]; exact hF8.below hb9
      have HSM : Hid (ys.map FilA.f = zs.map FilA.f) := by unfold Hid; rw [HYS.out, hzs.out, hgs2.out, H2.out]
      have HSm := Lib.hid (SameFiles_calls A5 ys c5 A9 zs c9 w9 _ _ _ _ (Rd.of_own (own_belowW (own_belowW ho6 hb8) hb9)) (Rd.of_own ho9) ((hF6.below hb8).below hb9) hF9 (by omega) (by omega))
      go_wp2_with fail
      refine HSm.out.mono ?_
      rintro e w10 ⟨u, nq, rfl, hu, hz10⟩
      obtain rfl : u = true := hu.2 HSM.out
      clear hu
      have hb10 : Below w9.heap.size w9 w10 := by rw [hz10]; exact (Below.refl _ _).drewN' nq
      clear hz10
      have hA10 := (hA8.below hb9).below hb10
      have hOp2 := Ops_calls hA10
      have hFr2 := Free_calls hA10
      have hOf2 := Off_calls hA10
      rw [HOP.out] at hOp2
      rw [HFE.out] at hFr2
      have HOp2 := Lib.hid hOp2
      have HFr2 := Lib.hid hFr2
      clear hOp2 hFr2
      by_cases h6 : ec = 5
      · rw [H5.out h6] at hOf2
        have HOf2 := Lib.hid hOf2
        subst h6
        clear hOf2
        go_wp2_with (first
          | (go_at_call 21; (with_reducible refine HOp2.out.mono ?_); rintro e z0 ⟨rfl, hz0⟩; obtain rfl := hz0.symm)
          | (go_at_call 16; (with_reducible refine HFr2.out.mono ?_); rintro e z0 ⟨rfl, hz0⟩; obtain rfl := hz0.symm)
          | (go_at_call 35; (with_reducible refine HOf2.out.mono ?_); rintro e z0 ⟨rfl, hz0⟩; obtain rfl := hz0.symm))
        go_ret
        exact ⟨rfl, hb09.next hb10⟩
      · have hn5 : (ec == 5) = false := beq_eq_false_iff_ne.2 h6
        have hn5b : (ec != 5) = true := by unfold bne; rw [hn5]; rfl
        clear hOf2 h6
        go_wp2_with (first
          | (go_at_call 21; (with_reducible refine HOp2.out.mono ?_); rintro e z0 ⟨rfl, hz0⟩; obtain rfl := hz0.symm)
          | (go_at_call 16; (with_reducible refine HFr2.out.mono ?_); rintro e z0 ⟨rfl, hz0⟩; obtain rfl := hz0.symm))
        go_ret
        exact ⟨rfl, hb09.next hb10⟩
  · obtain ⟨ec, D', hea⟩ : ∃ e E, syncD D xa = (e, E) := ⟨_, _, rfl⟩
    have hK' : OkD D' := by have h1 := hK.sync xa; rw [hea] at h1; exact h1
    have hLw := refused_law (q := 3) (a := xa) (b := xb) (l := xl) hea
    have hO := Sync_calls hA5 hK xa x1
    rw [hea] at hO
    have HO := Lib.hid hO
    clear hO hea
    go_wp2_with (first
      | (go_at_call 21; (with_reducible refine HOp.out.mono ?_); rintro e z0 ⟨rfl, hz0⟩; obtain rfl := hz0.symm)
      | (go_at_call 16; (with_reducible refine HFr.out.mono ?_); rintro e z0 ⟨rfl, hz0⟩; obtain rfl := hz0.symm))
    refine HO.out.mono ?_
    rintro e w6 ⟨rfl, hA6, ht6⟩
    have hb6 := Tw.new hb05 ht6 hg hm
    have ho6 := own_tw hA5 ht6 ho5 (by decide)
    have hF6 := hF5.tw hA5 ht6
    clear k0 k1 k2 k3 hq
    rcases hLw with ⟨rfl, h2, h3⟩ | ⟨h1, h2, h3, h4, h5⟩
    · have hOp2 := Ops_calls hA6
      have hFr2 := Free_calls hA6
      have hOf2 := Off_calls hA6
      have hop2 : opsD D'.done = opsD (D.done + 1) := by rw [h2]
      obtain ⟨od2, hod2⟩ : ∃ od2, od2 = opsD D'.done := ⟨_, rfl⟩
      obtain ⟨fr2, hfr2⟩ : ∃ fr2, fr2 = frD D' := ⟨_, rfl⟩
      rw [← hod2] at hOp2
      rw [← hfr2] at hFr2
      rw [h3] at hOf2
      have g2 : IntKind.i64.wrap (od + 1) = od2 := by rw [hod2, hop2, HOD.out]; exact opsD_next _
      have hf0 : 0 ≤ fr2 := by rw [hfr2, hK'.free]; have := hK'.room; omega
      have d2 : decide (fr2 ≥ 0) = true := decide_eq_true hf0
      have d2' : decide (0 ≤ fr2) = true := decide_eq_true hf0
      have HOp2 := Lib.hid hOp2
      have HFr2 := Lib.hid hFr2
      have HOf2 := Lib.hid hOf2
      clear hOp2 hFr2 hOf2 h2 h3 hop2 hod2 hfr2 hf0
      go_wp2_with (first
        | (go_at_call 21; (with_reducible refine HOp2.out.mono ?_); rintro e z0 ⟨rfl, hz0⟩; obtain rfl := hz0.symm)
        | (go_at_call 16; (with_reducible refine HFr2.out.mono ?_); rintro e z0 ⟨rfl, hz0⟩; obtain rfl := hz0.symm)
        | (go_at_call 35; (with_reducible refine HOf2.out.mono ?_); rintro e z0 ⟨rfl, hz0⟩; obtain rfl := hz0.symm))
      go_ret
      exact ⟨rfl, hb6⟩
    · have hnz : (ec == 0) = false := beq_eq_false_iff_ne.2 h1
      have H2 := Lib.hid h2
      have hfe : frD D' = frD D := by unfold frD; rw [h2, h3]
      have HOP : Hid (opsD D'.done = od) := by unfold Hid; rw [h4]; exact HOD.out.symm
      have HFE : Hid (frD D' = fr) := by unfold Hid; rw [hfe]; exact HFR.out.symm
      have HDu2 := Lib.hid (Dump_calls hA6 hK')
      have H5 := Lib.hid h5
      clear h1 h2 h3 h4 h5 hfe
      go_wp2_with fail
      refine HDu2.out.mono ?_
      rintro e w8 ⟨gs2, A8, c8, hgs2, rfl, ho8, hF8, hb8⟩
      have hb08 := hb6.next hb8
      have hA8 := hA6.below hb8
      have hgl2 : gs2.length ≤ 68719476736 := by have h1 := congrArg List.length hgs2.out; rw [List.length_map] at h1; have := hK'.lenD; omega
      have HTh2 := Lib.hid (Theirs_calls A8 gs2 c8 w8 (Rd.of_own ho8) (by omega))
      go_wp2_with fail
      refine HTh2.out.mono ?_
      rintro e w9 ⟨zs, A9, c9, hzs, rfl, ho9, hb9⟩
      have hb09 := hb08.next hb9
      have hzl : zs.length ≤ 68719476736 := by rw [hzs.out]; exact hgl2
      have hF9 : Fls8 w9 0 zs := by rw [hzs.out]; exact hF8.below hb9
      have HSM : Hid (ys.map FilA.f = zs.map FilA.f) := by unfold Hid; rw [HYS.out, hzs.out, hgs2.out, H2.out]
      have HSm := Lib.hid (SameFiles_calls A5 ys c5 A9 zs c9 w9 _ _ _ _ (Rd.of_own (own_belowW (own_belowW ho6 hb8) hb9)) (Rd.of_own ho9) ((hF6.below hb8).below hb9) hF9 (by omega) (by omega))
      go_wp2_with fail
      refine HSm.out.mono ?_
      rintro e w10 ⟨u, nq, rfl, hu, hz10⟩
      obtain rfl : u = true := hu.2 HSM.out
      clear hu
      have hb10 : Below w9.heap.size w9 w10 := by rw [hz10]; exact (Below.refl _ _).drewN' nq
      clear hz10
      have hA10 := (hA8.below hb9).below hb10
      have hOp2 := Ops_calls hA10
      have hFr2 := Free_calls hA10
      have hOf2 := Off_calls hA10
      rw [HOP.out] at hOp2
      rw [HFE.out] at hFr2
      have HOp2 := Lib.hid hOp2
      have HFr2 := Lib.hid hFr2
      clear hOp2 hFr2
      by_cases h6 : ec = 5
      · rw [H5.out h6] at hOf2
        have HOf2 := Lib.hid hOf2
        subst h6
        clear hOf2
        go_wp2_with (first
          | (go_at_call 21; (with_reducible refine HOp2.out.mono ?_); rintro e z0 ⟨rfl, hz0⟩; obtain rfl := hz0.symm)
          | (go_at_call 16; (with_reducible refine HFr2.out.mono ?_); rintro e z0 ⟨rfl, hz0⟩; obtain rfl := hz0.symm)
          | (go_at_call 35; (with_reducible refine HOf2.out.mono ?_); rintro e z0 ⟨rfl, hz0⟩; obtain rfl := hz0.symm))
        go_ret
        exact ⟨rfl, hb09.next hb10⟩
      · have hn5 : (ec == 5) = false := beq_eq_false_iff_ne.2 h6
        have hn5b : (ec != 5) = true := by unfold bne; rw [hn5]; rfl
        clear hOf2 h6
        go_wp2_with (first
          | (go_at_call 21; (with_reducible refine HOp2.out.mono ?_); rintro e z0 ⟨rfl, hz0⟩; obtain rfl := hz0.symm)
          | (go_at_call 16; (with_reducible refine HFr2.out.mono ?_); rintro e z0 ⟨rfl, hz0⟩; obtain rfl := hz0.symm))
        go_ret
        exact ⟨rfl, hb09.next hb10⟩
end Go.Proofs.Ytogjlfpoedeooaa
