/- The walks of the layer 'delta', its thirteenth part: one token. Conditions: lengths below 2^47. -/
import Derived.Test.YtpkfkippbanagaaDelta12
namespace Go.Proofs.Ytpkfkippbanagaa
open Go.RowKit Go.Dol
set_option linter.unusedVariables false
attribute [local irreducible] wpStill

/-- A reader that is well: what is left, what is made, how much is wanted. -/
def RsGood (w : World) (base g : Nat) (vb : Value) (p o : List UInt8) (size : Nat) : Prop :=
  ∃ (Ap Ao : Option Addr) (cp co : Nat), Blk w g 53 [vb, .slice Ap p.length cp, .slice Ao o.length co, .int .i64 size, .int .i64 0] ∧ Seg w base 5 1 Ap p.length cp (bc p) ∧
    w.ownsRow base 5 1 (.slice Ao o.length co) o.length (bc o) ∧ Apart Ap cp (.slice Ao o.length co)
/-- What a token leaves. -/
def RetTok (base g : Nat) (vb : Value) (size : Nat) (r : Option (List UInt8 × List UInt8)) (w : World) (e : Ending) (w' : World) : Prop :=
  e = .returned (.tuple #[]) ∧ Below base w w' ∧ match r with | none => RsBad w' g | some (o', p') => ∃ o1 p1, Hid (o1 = o' ∧ p1 = p') ∧ RsGood w' base g vb p1 o1 size

theorem grown_undrew {w w' : World} {row : Option Nat} (h : w.drew.grownBy w' row) : w.grownBy w' row := ⟨h.os, h.tape, h.output, h.size, h.block⟩
theorem num_none {g : Nat} {A : Option Addr} {p : List UInt8} {c : Nat} {vb vo vs : Value} {w : World} (hblk : Blk w g 53 [vb, .slice A p.length c, vo, vs, .int .i64 0]) (hr : Rd w w.heap.size 1 A p.length (bc p)) (hp : p.length ≤ 140737488355328) (hc : p.length ≤ c) (ht : takeNum p = none) :
    Calls Try.prog 43 #[.pointer (some ⟨g, 0, none⟩)] w fun e w' => e = .returned (.int .i64 0) ∧ Blk w' g 53 [vb, .slice none 0 0, vo, vs, .int .i64 2] ∧ w.grownBy w' (some g) := by
  have h := num_calls g A p c vb vo vs w hblk hr hp hc
  rw [ht] at h
  exact h
def NumSome (w : World) (g : Nat) (vb vo vs : Value) (n : Nat) (q : List UInt8) (e : Ending) (w' : World) : Prop :=
  ∃ (q' : List UInt8) (A : Option Addr) (c : Nat), Hid (q' = q) ∧ e = .returned (.int .i64 (n : Nat)) ∧ Blk w' g 53 [vb, .slice A q'.length c, vo, vs, .int .i64 0] ∧
      w'.ownsRow w.heap.size 5 1 (.slice A q'.length c) q'.length (bc q') ∧ w.grownBy w' (some g) ∧ q'.length ≤ c ∧ c ≤ maxLen
theorem num_some {g n : Nat} {A : Option Addr} {p q : List UInt8} {c : Nat} {vb vo vs : Value} {w : World} (hblk : Blk w g 53 [vb, .slice A p.length c, vo, vs, .int .i64 0]) (hr : Rd w w.heap.size 1 A p.length (bc p)) (hp : p.length ≤ 140737488355328) (hc : p.length ≤ c) (ht : takeNum p = some (n, q)) :
    Calls Try.prog 43 #[.pointer (some ⟨g, 0, none⟩)] w (NumSome w g vb vo vs n q) := by
  have h := num_calls g A p c vb vo vs w hblk hr hp hc
  rw [ht] at h
  exact h

set_option maxRecDepth 100000 in
set_option maxHeartbeats 4000000 in
theorem token_calls (base g : Nat) (Ab : Option Addr) (b : List UInt8) (cb : Nat) (p o : List UInt8) (size : Nat) (w : World) (h : RsGood w base g (.slice Ab b.length cb) p o size) (hrb : Rd w base 1 Ab b.length (bc b)) (hb : b.length ≤ 140737488355328) (hcb : b.length ≤ cb) (hcbm : cb ≤ maxLen)
    (hp : p.length ≤ 140737488355328) (ho : o.length ≤ size) (hs : size ≤ 70368744177664) (hg : base ≤ g) :
    Calls Try.prog 44 #[.pointer (some ⟨g, 0, none⟩)] w (RetTok base g (.slice Ab b.length cb) size (tokL b size o p) w) := by
  obtain ⟨r, hre⟩ : ∃ r, r = tokL b size o p := ⟨_, rfl⟩
  rw [← hre]
  have HR := Lib.hid hre
  clear hre
  obtain ⟨Ap, Ao, cp, co, hblk, hseg, hown, hap⟩ := h
  have hpc := hseg.2.1
  have hgl := hblk.lt
  rcases ht : takeNum p with _ | ⟨t, q⟩
  · have hn : Hid (r = none) := by unfold Hid; rw [HR.out, tokL, ht]
    have HT := Lib.hid ht
    clear ht
    go_enter Try.func44, Try.ntmps44
    go_wp2_with fail
    refine (num_none hblk hseg.rd hp hpc HT.out).mono ?_
    rintro e w1 ⟨rfl, hB1, hg1⟩
    have k1 : w1.cell? ⟨g, 1, none⟩ = some (.slice none 0 0) := by rw [hB1.cell]; rfl
    have hand : bits .and .i64 0 1 = 0 := by decide
    go_wp2_with fail
    refine (add_bad g _ _ _ _ none 0 0 0 1 w1 hB1 ⟨_, _, _, rfl⟩).mono ?_
    rintro e w2 ⟨rfl, ⟨vb, vp, vo, vs, hB2, hv2⟩, hg2⟩
    have k4 : w2.cell? ⟨g, 4, none⟩ = some (.int .i64 2) := by rw [hB2.cell]; rfl
    go_wp2_with fail
    go_end0
    rw [hn.out]
    exact ⟨rfl, below_of_grown (grown_step hg1 hg2) hg (by omega), ⟨vb, vp, vo, vs, hB2, hv2⟩⟩
  · have htm : t ≤ 4611686018427387903 := (num_takeNum ht).2
    have hql : q.length < p.length := takeNum_less ht
    obtain ⟨y, hy⟩ : ∃ y, y = t / 2 := ⟨_, rfl⟩
    have hyi : (t : Int) / 2 = (y : Int) := by omega
    have hyq : (t : Int).tdiv 2 = (y : Int) := by rw [Int.tdiv_eq_ediv_of_nonneg (by omega)]; exact hyi
    have hyb : y ≤ 2305843009213693951 := by omega
    have HY := Lib.hid hy
    have f1 : IntKind.i64.wrap ((y : Int) + 1) = (y : Int) + 1 := IntWalk.i64_in _ (by omega)
    have hy1 : Hid ((y : Int) + 1 = ((y + 1 : Nat) : Int)) := by unfold Hid; omega
    have hand := i64_and_one t (by omega)
    by_cases hev : t % 2 = 0
    · have hrun : Hid (r = if y + 1 ≤ size - o.length ∧ y + 1 ≤ q.length then some (o ++ q.take (y + 1), q.drop (y + 1)) else none) := by
        unfold Hid
        rw [HR.out, tokL, ht]
        simp only
        rw [if_pos hev, ← HY.out]
      rw [hev] at hand
      have HT := Lib.hid ht
      clear ht hev hy
      go_enter Try.func44, Try.ntmps44
      go_wp2_with fail
      refine (num_some hblk hseg.rd hp hpc HT.out).mono ?_
      rintro e w1 ⟨q1, A1, c1, e1, rfl, hB1, ho1, hg1, i1, i2⟩
      have hown1 := own_other hown hblk (by decide) hg1
      have hap1 : Apart A1 c1 (.slice Ao o.length co) := Apart.new hown (Seg.of_own ho1) (Nat.le_refl _)
      have hseg1 := (Seg.of_own ho1).lower (base' := base) (by omega)
      have hb1 : Below base w w1 := below_of_grown hg1 hg (by omega)
      have hq1 : q1.length < p.length := by rw [e1.out]; exact hql
      have k1 : w1.cell? ⟨g, 1, none⟩ = some (.slice A1 q1.length c1) := by rw [hB1.cell]; rfl
      rw [← e1.out] at hrun
      clear ho1 hg1 hap hown hseg hblk
      by_cases hin : y + 1 ≤ size - o.length ∧ y + 1 ≤ q1.length
      · rw [if_pos hin] at hrun
        have hx := add_good base g _ _ o Ao co size A1 q1 c1 0 (y + 1) w1 hB1 hown1 hseg1.rd i1 i2 hg ho hs (by omega) (by omega) (by omega) hin.1
        rw [← hy1.out] at hx
        go_wp2_with fail
        refine hx.mono ?_
        clear hx
        rintro e w2 ⟨rfl, o2, Ao2, co2, e2, hB2, ho2, hb2, j1, j2, hk2⟩
        obtain ⟨hs2, hap2⟩ := hk2.out _ _ _ _ hseg1 hap1
        have k4 : w2.cell? ⟨g, 4, none⟩ = some (.int .i64 0) := by rw [hB2.cell]; rfl
        have k1 : w2.cell? ⟨g, 1, none⟩ = some (.slice A1 q1.length c1) := by rw [hB2.cell]; rfl
        have z1 := hB2.free 1
        obtain ⟨x, Ax, cx, ex, jx, jx', ⟨rx, kx, kx'⟩, hcx, hsx, hsg, sx⟩ := sl_from (k := y + 1) ((y : Int) + 1) hy1.out hs2.rd hin.2 i1 i2
        have HSX := Lib.hid hsx
        clear hsx
        go_wp2_with fail
        go_end0
        rw [hrun.out]
        have hG : w2.grownBy (w2.setCell ⟨g, 1, none⟩ (.slice Ax x.length cx)) (some g) := grown_setCell (World.grownBy.refl _ _) 1 _
        refine ⟨rfl, (hb1.trans hb2).trans (below_of_grown hG hg (by have := hB2.lt; omega)), o2, x, ⟨by rw [e2.out, List.drop_zero], ex.out⟩, Ax, Ao2, cx, co2, hB2.set 1 _, seg_other (hsg.out _ _ hs2) hB2 (by decide) hG, own_other ho2 hB2 (by decide) hG, hap2.piece (by omega) HSX.out⟩
      · rw [if_neg hin] at hrun
        have hx := add_out g _ _ Ao o.length co size A1 q1.length c1 0 (y + 1) w1 hB1 ⟨_, _, _, rfl⟩ ho (by omega) (by omega) (fun h => hin ⟨h.2.2, by omega⟩)
        rw [← hy1.out] at hx
        go_wp2_with fail
        refine hx.mono ?_
        clear hx
        rintro e w2 ⟨rfl, ⟨vb, vp, vo, vs, hB2, hv2⟩, hg2⟩
        have k4 : w2.cell? ⟨g, 4, none⟩ = some (.int .i64 2) := by rw [hB2.cell]; rfl
        go_wp2_with fail
        go_end0
        rw [hrun.out]
        exact ⟨rfl, hb1.trans (below_of_grown hg2 hg (by have := hb1.size; omega)), ⟨vb, vp, vo, vs, hB2, hv2⟩⟩
    · have hod : t % 2 = 1 := by omega
      rw [hod] at hand
      have k0 : ∀ w' : World, ∀ vp vo vs ve, Blk w' g 53 [.slice Ab b.length cb, vp, vo, vs, ve] → w'.cell? ⟨g, 0, none⟩ = some (.slice Ab b.length cb) := fun w' vp vo vs ve h => by rw [h.cell]; rfl
      have K0 := Lib.hid k0
      clear k0
      rcases ht2 : takeNum q with _ | ⟨d, q2⟩
      · have hn : Hid (r = none) := by
          unfold Hid
          rw [HR.out, tokL, ht]
          simp only
          rw [if_neg hev, ht2]
        have HT := Lib.hid ht
        have HT2 := Lib.hid ht2
        clear ht ht2 hev hy hod
        go_enter Try.func44, Try.ntmps44
        go_wp2_with fail
        refine (num_some hblk hseg.rd hp hpc HT.out).mono ?_
        rintro e w1 ⟨q1, A1, c1, e1, rfl, hB1, ho1, hg1, i1, i2⟩
        have hb1 : Below base w w1 := below_of_grown hg1 hg (by omega)
        have hq1 : q1.length < p.length := by rw [e1.out]; exact hql
        have ht1 : Hid (takeNum q1 = none) := by rw [e1.out]; exact HT2.out
        have k0 := K0.out w1 _ _ _ _ hB1
        have hr1 := Rd.of_own ho1
        clear ho1 hg1 hap hown hseg hblk
        go_wp2_with fail
        go_region_with ((first
          | (go_at_call 43; refine (num_none (A := A1) (p := q1) (c := c1) (by first | exact hB1 | exact hB1.drew) (by first | exact hr1 | exact hr1.drew) (by omega) i1 ht1.out).mono ?_; rintro e w2 ⟨rfl, hB2, hg2⟩; have k0 := K0.out w2 _ _ _ _ hB2)
          | (go_at_call 48; refine (add_bad g _ _ _ _ Ab b.length cb _ _ _ (by first | exact hB2 | exact hB2.drew) ⟨_, _, _, rfl⟩).mono ?_; rintro e w3 ⟨rfl, ⟨vb, vp, vo, vs, hB3, hv3⟩, hg3⟩; have k4 : w3.cell? ⟨g, 4, none⟩ = some (.int .i64 2) := (by rw [hB3.cell]; rfl))))
        all_goals
          have hz1 := hB1.lt
          have hz2 := hB2.lt
          have hb3 : Below base w w3 := hb1.trans ((below_of_grown (grown_undrew hg2) hg (by omega) : Below base w1 w2).trans (below_of_grown hg3 hg (by omega)))
          go_wp2_with fail
          refine bodyPost_ret (results_none (by rfl) _ _ _) rfl ?_
          rw [hn.out]
          first
            | exact ⟨rfl, hb3, ⟨vb, vp, vo, vs, hB3, hv3⟩⟩
            | exact ⟨rfl, hb3.drew, ⟨vb, vp, vo, vs, hB3.drew, hv3⟩⟩
      · have hdm : d ≤ 4611686018427387903 := (num_takeNum ht2).2
        have hq2l : q2.length < q.length := takeNum_less ht2
        have hrun : Hid (r = if y + 1 ≤ size - o.length ∧ d + (y + 1) ≤ b.length then some (o ++ (b.drop d).take (y + 1), q2) else none) := by
          unfold Hid
          rw [HR.out, tokL, ht]
          simp only
          rw [if_neg hev, ht2, ← HY.out]
        have HT := Lib.hid ht
        have HT2 := Lib.hid ht2
        clear ht ht2 hev hy hod
        go_enter Try.func44, Try.ntmps44
        go_wp2_with fail
        refine (num_some hblk hseg.rd hp hpc HT.out).mono ?_
        rintro e w1 ⟨q1, A1, c1, e1, rfl, hB1, ho1, hg1, i1, i2⟩
        have hown1 := own_other hown hblk (by decide) hg1
        have hb1 : Below base w w1 := below_of_grown hg1 hg (by omega)
        have hq1 : q1.length < p.length := by rw [e1.out]; exact hql
        have ht1 : Hid (takeNum q1 = some (d, q2)) := by rw [e1.out]; exact HT2.out
        have k0 := K0.out w1 _ _ _ _ hB1
        have hr1 := Rd.of_own ho1
        have hz1 := hB1.lt
        have hbw1 : base ≤ w1.heap.size := by omega
        clear ho1 hg1 hap hown hseg hblk
        go_wp2_with fail
        by_cases hin : y + 1 ≤ size - o.length ∧ d + (y + 1) ≤ b.length
        · rw [if_pos hin] at hrun
          have hx : ∀ (A2 : Option Addr) (c2 : Nat) (q3 : List UInt8) (w2 wx : World), Blk w2 g 53 [.slice Ab b.length cb, .slice A2 q3.length c2, .slice Ao o.length co, .int .i64 size, .int .i64 0] → w1.grownBy w2 (some g) → (wx = w2 ∨ wx = w2.drew) →
              Calls Try.prog 48 #[.pointer (some ⟨g, 0, none⟩), .slice Ab b.length cb, .int .i64 d, .int .i64 ((y : Int) + 1)] wx (AddRes base g (.slice Ab b.length cb) (.slice A2 q3.length c2) size Ao o.length co (o ++ (b.drop d).take (y + 1)) wx) := by
            intro A2 c2 q3 w2 wx hB2 hg2 hwx
            rw [hy1.out]
            have hb2 : Below base w1 w2 := below_of_grown hg2 hg hbw1
            have hz2 := hB2.lt
            have hr2 : Rd w2 w2.heap.size 1 Ab b.length (bc b) := ((hrb.below hb1).below hb2).more (by omega)
            have ho2 := own_other hown1 hB1 (by decide) hg2
            rcases hwx with rfl | rfl
            · exact add_good base g _ _ o Ao co size Ab b cb d (y + 1) wx hB2 ho2 hr2 hcb hcbm hg ho hs hb (by omega) (by omega) hin.1
            · exact add_good base g _ _ o Ao co size Ab b cb d (y + 1) w2.drew hB2.drew ho2 hr2.drew hcb hcbm hg ho hs hb (by omega) (by omega) hin.1
          have HX := Lib.hid hx
          clear hx
          go_region_with ((first
            | (go_at_call 43; refine (num_some (A := A1) (p := q1) (c := c1) (by first | exact hB1 | exact hB1.drew) (by first | exact hr1 | exact hr1.drew) (by omega) i1 ht1.out).mono ?_; rintro e w2 ⟨q3, A2, c2, e2, rfl, hB2, ho2, hg2, i3, i4⟩; have k0 := K0.out w2 _ _ _ _ hB2)
            | (go_at_call 48; refine (HX.out A2 c2 q3 w2 _ hB2 (grown_undrew hg2) (by first | exact .inl rfl | exact .inr rfl)).mono ?_; rintro e w3 ⟨rfl, o3, Ao3, co3, e3, hB3, ho3, hb3, i5, i6, hk3⟩)))
          all_goals
            have hb2 : Below base w w2 := hb1.trans (below_of_grown (grown_undrew hg2) hg hbw1)
            have hown1d : w1.drew.ownsRow base 5 1 (.slice Ao o.length co) o.length (bc o) := hown1
            obtain ⟨hs3, hap3⟩ := hk3.out _ _ _ _ ((Seg.of_own ho2).lower (base' := base) hbw1) (Apart.new hown1d (Seg.of_own ho2) (Nat.le_refl _))
            go_wp2_with fail
            refine bodyPost_ret (results_none (by rfl) _ _ _) rfl ?_
            rw [hrun.out]
            exact ⟨rfl, hb2.trans hb3, o3, q3, ⟨e3.out, e2.out⟩, A2, Ao3, c2, co3, hB3, hs3, ho3, hap3⟩
        · rw [if_neg hin] at hrun
          have hx : ∀ (A2 : Option Addr) (c2 : Nat) (q3 : List UInt8) (w2 wx : World), Blk w2 g 53 [.slice Ab b.length cb, .slice A2 q3.length c2, .slice Ao o.length co, .int .i64 size, .int .i64 0] → (wx = w2 ∨ wx = w2.drew) →
              Calls Try.prog 48 #[.pointer (some ⟨g, 0, none⟩), .slice Ab b.length cb, .int .i64 d, .int .i64 ((y : Int) + 1)] wx fun e w' => e = .returned (.tuple #[]) ∧ RsBad w' g ∧ wx.grownBy w' (some g) := by
            intro A2 c2 q3 w2 wx hB2 hwx
            rw [hy1.out]
            rcases hwx with rfl | rfl
            · exact add_out g _ _ Ao o.length co size Ab b.length cb d (y + 1) wx hB2 ⟨_, _, _, rfl⟩ ho (by omega) hb (fun h => hin ⟨h.2.2, by omega⟩)
            · exact add_out g _ _ Ao o.length co size Ab b.length cb d (y + 1) w2.drew hB2.drew ⟨_, _, _, rfl⟩ ho (by omega) hb (fun h => hin ⟨h.2.2, by omega⟩)
          have HX := Lib.hid hx
          clear hx
          go_region_with ((first
            | (go_at_call 43; refine (num_some (A := A1) (p := q1) (c := c1) (by first | exact hB1 | exact hB1.drew) (by first | exact hr1 | exact hr1.drew) (by omega) i1 ht1.out).mono ?_; rintro e w2 ⟨q3, A2, c2, e2, rfl, hB2, ho2, hg2, i3, i4⟩; have k0 := K0.out w2 _ _ _ _ hB2)
            | (go_at_call 48; refine (HX.out A2 c2 q3 w2 _ hB2 (by first | exact .inl rfl | exact .inr rfl)).mono ?_; rintro e w3 ⟨rfl, ⟨vb, vp, vo, vs, hB3, hv3⟩, hg3⟩)))
          all_goals
            have hz2 := hB2.lt
            have hb3 : Below base w w3 := hb1.trans ((below_of_grown (grown_undrew hg2) hg hbw1 : Below base w1 w2).trans (below_of_grown hg3 hg (by omega)))
            go_wp2_with fail
            refine bodyPost_ret (results_none (by rfl) _ _ _) rfl ?_
            rw [hrun.out]
            exact ⟨rfl, hb3, ⟨vb, vp, vo, vs, hB3, hv3⟩⟩
end Go.Proofs.Ytpkfkippbanagaa
