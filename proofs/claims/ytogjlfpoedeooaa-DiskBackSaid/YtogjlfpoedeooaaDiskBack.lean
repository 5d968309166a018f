/- The walk of the law DiskBack. Conditions: at most 2^47 commands; names below 2^47. -/
import Derived.Test.YtogjlfpoedeooaaPlayed
namespace Go.Dol
open Go.RowKit
set_option linter.unusedVariables false
/-- Renamed to a name that was free, and back: refused, or all is as it was, two raw writes later. -/
theorem back_law {D : Dk} (h : OkD D) (hd : D.dark = false) (hl : D.left = -1) {a b : ByteArray} (ha : (lookF D.l a).isSome = true) (hb : lookF D.l b = none) :
    (renD D a b).1 = 1 ∨ (renD D a b).1 = 4 ∨ ((renD D a b).1 = 0 ∧ (lookF (renD D a b).2.l b).isSome = true ∧ lookF (renD D a b).2.l a = none ∧
      (renD (renD D a b).2 b a).1 = 0 ∧ (renD (renD D a b).2 b a).2.l = D.l ∧ (renD (renD D a b).2 b a).2.done = D.done + 2) := by
  obtain ⟨c, hc⟩ := Option.isSome_iff_exists.1 ha
  have hna := h.named hc
  have hne : a ≠ b := by
    rintro rfl
    rw [hb] at hc
    cases hc
  cases hnb : nameB b with
  | false =>
    refine .inl ?_
    unfold renD
    rw [if_pos (.inr hnb)]
  | true =>
    have hno : ∀ x y : ByteArray, nameB x = true → nameB y = true → ¬ (nameB x = false ∨ nameB y = false) := by
      intro x y hx hy
      rw [hx, hy]
      rintro (h | h) <;> cases h
    have ht : touchD D a = 0 := by
      unfold touchD
      rw [if_neg (by rw [hna]; decide), if_neg (by rw [hd]; decide), if_pos ha]
    by_cases hr : 0 < renNeed D a b ∧ frD D < renNeed D a b
    · refine .inr (.inl ?_)
      unfold renD
      rw [if_neg (hno _ _ hna hnb), if_neg (by rw [ht]; simp)]
      unfold roomD
      rw [if_pos hr]
    · have hR : renD D a b = (0, { D with left := -1, done := D.done + 1, l := putF (dropF D.l a) b c }) := by
        unfold renD
        rw [if_neg (hno _ _ hna hnb), if_neg (by rw [ht]; simp)]
        unfold roomD spendD
        rw [if_neg hr, if_neg (by rw [hl]; decide), if_neg (by rw [hl]; decide), hc, hl]
        rfl
      have hK2 : OkD (renD D a b).2 := h.ren a b
      rw [hR] at hK2 ⊢
      obtain ⟨E, hE⟩ : ∃ E, E = ({ D with left := -1, done := D.done + 1, l := putF (dropF D.l a) b c } : Dk) := ⟨_, rfl⟩
      have hEl : E.l = putF (dropF D.l a) b c := by rw [hE]
      have hEd : E.dark = false := by rw [hE]; exact hd
      have hEf : E.left = -1 := by rw [hE]
      have hEn : E.done = D.done + 1 := by rw [hE]
      have hEc : E.cap = D.cap := by rw [hE]
      rw [← hE] at hK2 ⊢
      have hlb : lookF E.l b = some c := by rw [hEl, look_put (drop_order h.ord), if_pos rfl]
      have hla : lookF E.l a = none := by rw [hEl, look_put (drop_order h.ord), if_neg hne, look_drop h.ord, if_pos rfl]
      have hfr : frD E = frD D - renNeed D a b := by
        have h1 := costs_ren h (b := b) hc
        rw [h.free, hK2.free, hEc, hEl, h1]
        unfold renMore renNeed
        rw [if_neg hne, hb]
        simp only
        omega
      have hback : putF (dropF E.l b) a c = D.l := by
        refine order_unique (put_order (drop_order hK2.ord)) h.ord ?_
        have p1 := put_perm (dropF E.l b) a c
        have p2 := drop_perm hlb
        have p3 := drop_perm hc
        have p4 := put_perm (dropF D.l a) b c
        rw [← hEl] at p4
        have p5 : (dropF E.l b).Perm (dropF D.l a) := by
          have h6 : dropF (dropF D.l a) b = dropF D.l a := drop_none (by rw [look_drop h.ord, if_neg (Ne.symm hne)]; exact hb)
          rw [h6] at p4
          exact (List.perm_cons _).1 (p2.symm.trans p4)
        have h7 : dropF (dropF E.l b) a = dropF E.l b := drop_none (by rw [look_drop hK2.ord, if_neg hne]; exact hla)
        rw [h7] at p1
        exact p1.trans ((p5.cons _).trans p3.symm)
      have ht2 : touchD E b = 0 := by
        unfold touchD
        rw [if_neg (by rw [hnb]; decide), if_neg (by rw [hEd]; decide), if_pos (by rw [hlb]; rfl)]
      have hfr0 : 0 ≤ frD D := by rw [h.free]; have := h.room; omega
      have hr2 : ¬ (0 < renNeed E b a ∧ frD E < renNeed E b a) := by
        rintro ⟨h1, h2⟩
        rw [hfr] at h2
        unfold renNeed at h1 h2
        rw [hla] at h1 h2
        rw [hb] at h2
        simp only at h1 h2
        omega
      have hR2 : renD E b a = (0, { E with left := -1, done := E.done + 1, l := D.l }) := by
        unfold renD
        rw [if_neg (hno _ _ hnb hna), if_neg (by rw [ht2]; simp)]
        unfold roomD spendD
        rw [if_neg hr2, if_neg (by rw [hEf]; decide), if_neg (by rw [hEf]; decide), hlb, Option.getD_some, hback, hEf]
      refine .inr (.inr ⟨rfl, by rw [hlb]; rfl, hla, ?_, ?_, ?_⟩)
      · rw [hR2]
      · rw [hR2]
      · rw [hR2]
        show E.done + 1 = _
        rw [hEn]
end Go.Dol
namespace Go.Proofs.Ytogjlfpoedeooaa
open Go.RowKit Go.Dol
set_option linter.unusedVariables false
theorem opsD_next2 (n : Nat) : IntKind.i64.wrap (opsD n + 2) = opsD (n + 2) := by
  have h := wrap_sub (n : Int) (-2)
  have e1 : IntKind.i64.wrap (n : Int) - -2 = opsD n + 2 := by unfold opsD; omega
  have e2 : (n : Int) - -2 = ((n + 2 : Nat) : Int) := by omega
  rw [e1, e2] at h
  exact h
set_option maxRecDepth 100000 in
set_option maxHeartbeats 8000000 in
theorem diskBack_walk (As : Option Addr) (s : List OpA) (cs : Nat) (a b : ByteArray) (w : World) (hr : Rd w w.heap.size 5 As s.length (oc s)) (HOx : Ops8 w w.heap.size s) (hsl : s.length ≤ 140737488355328) (ha : a.size ≤ 140737488351232) (hb : b.size ≤ 140737488351232) :
    Calls Try.prog 12 #[.slice As s.length cs, .string a, .string b] w fun e w' => e = .returned (.bool true) ∧ Below w.heap.size w w' := by
  have ham : a.size ≤ maxLen := by unfold maxLen; omega
  have hbm : b.size ≤ maxLen := by unfold maxLen; omega
  have hAw := awake4_calls w
  have hcap : bits .and .i64 1048575 1048575 = 1048575 := by kernel_rfl
  go_enter Try.func12, Try.ntmps12
  go_wp2_with fail
  refine hAw.mono ?_
  rintro e w1 ⟨rfl, hb1⟩
  clear hAw
  have HPl := Lib.hid (played_calls 1048575 1048575 hcap As s cs w1 ((hr.belowW hb1 (Nat.le_refl _)).more hb1.size) (fun x hx => ⟨⟨((HOx.below hb1) x hx).1.1.more hb1.size, (HOx x hx).1.2⟩, (HOx x hx).2⟩) hsl)
  clear hcap hr HOx
  go_wp2_with fail
  refine HPl.out.mono ?_
  rintro e w2 ⟨g, m, D, rfl, hK, hDc, hA2, hg2, hm2, hb2⟩
  have hb02 := hb1.next hb2
  have hs1 := hb1.size
  have hg : w.heap.size ≤ g := by omega
  have hm : w.heap.size ≤ m := by omega
  have HOf := Off_calls hA2
  have HHa := Has_calls hA2 hK.ord a ham
  have HHb := Has_calls hA2 hK.ord b hbm
  obtain ⟨dk, hdk⟩ : ∃ dk, dk = D.dark := ⟨_, rfl⟩
  obtain ⟨ia, hia⟩ : ∃ ia, ia = (lookF D.l a).isSome := ⟨_, rfl⟩
  obtain ⟨ib, hib⟩ : ∃ ib, ib = (lookF D.l b).isSome := ⟨_, rfl⟩
  rw [← hdk] at HOf
  rw [← hia] at HHa
  rw [← hib] at HHb
  by_cases hcase : dk = false ∧ ia = true ∧ ib = false
  · obtain ⟨h1, h2, h3⟩ := hcase
    rw [h1] at HOf hdk
    rw [h2] at HHa hia
    rw [h3] at HHb hib
    have hlb : lookF D.l b = none := by
      cases h : lookF D.l b with
      | none => rfl
      | some x => rw [h] at hib; cases hib
    have HO := Lib.hid HOf
    have HA := Lib.hid HHa
    have HB := Lib.hid HHb
    have HOn := Lib.hid (On_calls hA2)
    have hK1 : OkD (onD D) := hK.on
    have HBk := Lib.hid (back_law hK1 (a := a) (b := b) rfl rfl hia.symm hlb)
    clear HOf HHa HHb hdk hia hib h1 h2 h3 hlb
    go_wp2_with (first
      | (go_at_call 35; (with_reducible refine HO.out.mono ?_); rintro e z0 ⟨rfl, hz0⟩; obtain rfl := hz0.symm)
      | (go_at_call 20; (with_reducible refine HA.out.mono ?_); rintro e z0 ⟨rfl, hz0⟩; obtain rfl := hz0.symm)
      | (go_at_call 20; (with_reducible refine HB.out.mono ?_); rintro e z0 ⟨rfl, hz0⟩; obtain rfl := hz0.symm))
    refine HOn.out.mono ?_
    rintro e w3 ⟨rfl, hA3, ht3⟩
    have hb3 := Tw.new hb02 ht3 hg hm
    obtain ⟨D1, hD1⟩ : ∃ D1, D1 = onD D := ⟨_, rfl⟩
    rw [← hD1] at hA3 hK1 HBk
    clear hA2 hK hDc HO HA HB hD1
    have HDu := Lib.hid (Dump_calls hA3 hK1)
    go_wp2_with fail
    refine HDu.out.mono ?_
    rintro e w4 ⟨gs, A4, c4, hgs, rfl, ho4, hF4, hb4⟩
    have hA4 := hA3.below hb4
    have hb04 := hb3.next hb4
    have hgl : gs.length ≤ 68719476736 := by have h1 := congrArg List.length hgs.out; rw [List.length_map] at h1; have := hK1.lenD; omega
    have HTh := Lib.hid (Theirs_calls A4 gs c4 w4 (Rd.of_own ho4) (by omega))
    go_wp2_with fail
    refine HTh.out.mono ?_
    rintro e w5 ⟨ys, A5, c5, hys, rfl, ho5, hb5⟩
    have hA5 := hA4.below hb5
    have hb05 := hb04.next hb5
    have hyl : ys.length ≤ 68719476736 := by rw [hys.out]; exact hgl
    have hF5 : Fls8 w5 0 ys := by rw [hys.out]; exact hF4.below hb5
    have HYS : Hid (ys.map FilA.f = D1.l) := by unfold Hid; rw [hys.out, hgs.out]
    obtain ⟨od, hod⟩ : ∃ od, od = opsD D1.done := ⟨_, rfl⟩
    have hOp := Ops_calls hA5
    rw [← hod] at hOp
    have HOp := Lib.hid hOp
    have HOD := Lib.hid hod
    have hRn := Rename_calls hA5 hK1 a b ham hbm
    have hK2 := hK1.ren a b
    obtain ⟨e2, D2, hD2⟩ : ∃ e2 D2, renD D1 a b = (e2, D2) := ⟨_, _, rfl⟩
    rw [hD2] at hRn hK2
    have hbk := HBk.out
    rw [hD2] at hbk
    simp only at hbk hK2
    have HRn := Lib.hid hRn
    clear hOp hod hRn hD2 HBk
    go_wp2_with ((go_at_call 21; (with_reducible refine HOp.out.mono ?_); rintro e z0 ⟨rfl, hz0⟩; obtain rfl := hz0.symm))
    refine HRn.out.mono ?_
    rintro e w6 ⟨rfl, hA6, ht6⟩
    have hb6 := Tw.new hb05 ht6 hg hm
    rcases hbk with h1 | h1 | ⟨h1, h2, h3, h4, h5, h6⟩
    · subst h1
      go_wp2_with fail
      go_ret
      exact ⟨rfl, hb6⟩
    · subst h1
      go_wp2_with fail
      go_ret
      exact ⟨rfl, hb6⟩
    · subst h1
      have ho6 := own_tw hA5 ht6 ho5 (by decide)
      have hF6 := hF5.tw hA5 ht6
      have HHb2 := Has_calls hA6 hK2.ord b hbm
      have HHa2 := Has_calls hA6 hK2.ord a ham
      have h3' : (lookF D2.l a).isSome = false := by rw [h3]; rfl
      rw [h2] at HHb2
      rw [h3'] at HHa2
      have HB2 := Lib.hid HHb2
      have HA2 := Lib.hid HHa2
      have hRn2 := Rename_calls hA6 hK2 b a hbm ham
      have hK3 := hK2.ren b a
      obtain ⟨e3, D3, hD3⟩ : ∃ e3 D3, renD D2 b a = (e3, D3) := ⟨_, _, rfl⟩
      rw [hD3] at hRn2 hK3 h4 h5 h6
      simp only at h4 h5 h6 hK3
      subst h4
      have HRn2 := Lib.hid hRn2
      have H5 := Lib.hid h5
      have H6 := Lib.hid h6
      clear HHb2 HHa2 h2 h3 h3' hRn2 hD3 h5 h6
      go_wp2_with (first
        | (go_at_call 20; (with_reducible refine HB2.out.mono ?_); rintro e z0 ⟨rfl, hz0⟩; obtain rfl := hz0.symm)
        | (go_at_call 20; (with_reducible refine HA2.out.mono ?_); rintro e z0 ⟨rfl, hz0⟩; obtain rfl := hz0.symm))
      refine HRn2.out.mono ?_
      rintro e w7 ⟨rfl, hA7, ht7⟩
      have hb7 := Tw.new hb6 ht7 hg hm
      have ho7 := own_tw hA6 ht7 ho6 (by decide)
      have hF7 := hF6.tw hA6 ht7
      have hOp2 := Ops_calls hA7
      have hop2 : opsD D3.done = opsD (D1.done + 2) := by rw [H6.out]
      obtain ⟨od2, hod2⟩ : ∃ od2, od2 = opsD D3.done := ⟨_, rfl⟩
      rw [← hod2] at hOp2
      have g2 : IntKind.i64.wrap (od + 2) = od2 := by rw [hod2, hop2, HOD.out]; exact opsD_next2 _
      have HOp2 := Lib.hid hOp2
      have HDu2 := Lib.hid (Dump_calls hA7 hK3)
      clear hOp2 hop2 hod2
      go_wp2_with ((go_at_call 21; (with_reducible refine HOp2.out.mono ?_); rintro e z0 ⟨rfl, hz0⟩; obtain rfl := hz0.symm))
      refine HDu2.out.mono ?_
      rintro e w8 ⟨gs2, A8, c8, hgs2, rfl, ho8, hF8, hb8⟩
      have hb08 := hb7.next hb8
      have hgl2 : gs2.length ≤ 68719476736 := by have h1 := congrArg List.length hgs2.out; rw [List.length_map] at h1; have := hK3.lenD; omega
      have HTh2 := Lib.hid (Theirs_calls A8 gs2 c8 w8 (Rd.of_own ho8) (by omega))
      go_wp2_with fail
      refine HTh2.out.mono ?_
      rintro e w9 ⟨zs, A9, c9, hzs, rfl, ho9, hb9⟩
      have hb09 := hb08.next hb9
      have hzl : zs.length ≤ 68719476736 := by rw [hzs.out]; exact hgl2
      have hF9 : Fls8 w9 0 zs := by rw [hzs.out]; exact hF8.below hb9
      have HSM : Hid (ys.map FilA.f = zs.map FilA.f) := by unfold Hid; rw [HYS.out, hzs.out, hgs2.out, H5.out]
      have HSm := Lib.hid (SameFiles_calls A5 ys c5 A9 zs c9 w9 _ _ _ _ (Rd.of_own (own_belowW (own_belowW ho7 hb8) hb9)) (Rd.of_own ho9) ((hF7.below hb8).below hb9) hF9 (by omega) (by omega))
      go_wp2_with fail
      refine HSm.out.mono ?_
      rintro e w10 ⟨u, nq, rfl, hu, hz10⟩
      obtain rfl : u = true := hu.2 HSM.out
      clear hu
      have hb10 : Below w9.heap.size w9 w10 := by rw [hz10]; exact (Below.refl _ _).drewN' nq
      clear hz10
      go_wp2_with fail
      go_ret
      exact ⟨rfl, hb09.next hb10⟩
  · have hcl : dk = true ∨ (dk = false ∧ ia = false) ∨ (dk = false ∧ ia = true ∧ ib = true) := by
      cases dk <;> cases ia <;> cases ib <;> simp_all
    clear hcase hdk hia hib
    rcases hcl with h1 | ⟨h1, h2⟩ | ⟨h1, h2, h3⟩
    · subst h1
      have HO := Lib.hid HOf
      clear HOf HHa HHb
      go_wp2_with ((go_at_call 35; (with_reducible refine HO.out.mono ?_); rintro e z0 ⟨rfl, hz0⟩; obtain rfl := hz0.symm))
      go_ret
      exact ⟨rfl, hb02⟩
    · subst h1 h2
      have HO := Lib.hid HOf
      have HA := Lib.hid HHa
      clear HOf HHa HHb
      go_wp2_with (first
        | (go_at_call 35; (with_reducible refine HO.out.mono ?_); rintro e z0 ⟨rfl, hz0⟩; obtain rfl := hz0.symm)
        | (go_at_call 20; (with_reducible refine HA.out.mono ?_); rintro e z0 ⟨rfl, hz0⟩; obtain rfl := hz0.symm))
      go_ret
      exact ⟨rfl, hb02⟩
    · subst h1 h2 h3
      have HO := Lib.hid HOf
      have HA := Lib.hid HHa
      have HB := Lib.hid HHb
      clear HOf HHa HHb
      go_wp2_with (first
        | (go_at_call 35; (with_reducible refine HO.out.mono ?_); rintro e z0 ⟨rfl, hz0⟩; obtain rfl := hz0.symm)
        | (go_at_call 20; (with_reducible refine HA.out.mono ?_); rintro e z0 ⟨rfl, hz0⟩; obtain rfl := hz0.symm)
        | (go_at_call 20; (with_reducible refine HB.out.mono ?_); rintro e z0 ⟨rfl, hz0⟩; obtain rfl := hz0.symm))
      go_ret
      exact ⟨rfl, hb02⟩
end Go.Proofs.Ytogjlfpoedeooaa
