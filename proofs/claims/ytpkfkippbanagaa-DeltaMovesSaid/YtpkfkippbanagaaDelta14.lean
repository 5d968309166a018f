/- The walks of the layer 'delta', its fourteenth part: Apply. Conditions: lengths below 2^47, the target's length below 2^46. -/
import Derived.Test.YtpkfkippbanagaaDelta13
import Derived.Deep.LoopGhost
namespace Go.Proofs.Ytpkfkippbanagaa
open Go.RowKit Go.Dol
set_option linter.unusedVariables false
attribute [local irreducible] wpStill

def ApplyInv (r : Option (List UInt8)) (b : List UInt8) (vb : Value) (size base g : Nat) (w : World) (k : Nat) (wr : World) : Prop :=
  ((∃ p o : List UInt8, k = p.length + 1 ∧ RsGood wr base g vb p o size ∧ o.length ≤ size ∧ size ≤ 70368744177664 ∧ p.length ≤ 140737488355328 ∧ Hid (r = dGo b size o p)) ∨ (k = 0 ∧ RsBad wr g ∧ Hid (r = none))) ∧ Below base w wr

set_option maxRecDepth 100000 in
set_option maxHeartbeats 4000000 in
theorem Apply_gen (Ab : Option Addr) (b : List UInt8) (cb : Nat) (A : Option Addr) (l : List UInt8) (c : Nat) (most : Int) (w : World) (hrb : Rd w w.heap.size 1 Ab b.length (bc b)) (hbl : b.length ≤ 140737488355328) (hcb : b.length ≤ cb) (hcbm : cb ≤ maxLen)
    (hr : Rd w w.heap.size 1 A l.length (bc l)) (hl : l.length ≤ 140737488355328) (hc : l.length ≤ c) (hm : ∀ n q s r, takeNum l = some (n, q) → takeNum q = some (s, r) → (s : Int) ≤ most → s ≤ 70368744177664) :
    Calls Try.prog 29 #[.slice Ab b.length cb, .slice A l.length c, .int .i64 most] w (RetApply w (applyL b l most)) := by
  obtain ⟨r, hre⟩ : ∃ r, r = applyL b l most := ⟨_, rfl⟩
  rw [← hre]
  have HR := Lib.hid hre
  clear hre
  have hblk0 := Blk.new w 53 [.slice Ab b.length cb, .slice A l.length c, .slice none 0 0, .int .i64 0, .int .i64 0]
  have hb0 : Below w.heap.size w (w.alloc (.cells #[.slice Ab b.length cb, .slice A l.length c, .slice none 0 0, .int .i64 0, .int .i64 0] 53)) := (Below.refl _ _).alloc (Nat.le_refl _) _
  have hr0 := hr.alive hb0
  go_enter Try.func29, Try.ntmps29
  go_wp2_with fail
  obtain ⟨g, hg⟩ : ∃ g, g = w.heap.size := ⟨_, rfl⟩
  obtain ⟨w0, hw0⟩ : ∃ w0, w0 = w.alloc (.cells #[.slice Ab b.length cb, .slice A l.length c, .slice none 0 0, .int .i64 0, .int .i64 0] 53) := ⟨_, rfl⟩
  change Blk (w.alloc (.cells #[.slice Ab b.length cb, .slice A l.length c, .slice none 0 0, .int .i64 0, .int .i64 0] 53)) _ _ _ at hblk0
  rw [← hw0] at hblk0 hr0 hb0 ⊢
  rw [← hg] at hblk0 hb0 hrb ⊢
  have HG := Lib.hid hg
  clear hw0 hg hr
  rcases ht : takeNum l with _ | ⟨n, q⟩
  · have hn : Hid (r = none) := by unfold Hid; rw [HR.out, applyL, ht]
    have HT := Lib.hid ht
    clear ht
    refine (num_none hblk0 hr0 hl hc HT.out).mono ?_
    rintro e w1 ⟨rfl, hB1, hg1⟩
    go_wp2_with fail
    refine (num_bad g _ _ _ w1 hB1).mono ?_
    rintro e w2 ⟨rfl, hB2, hg2⟩
    have k3 : w2.cell? ⟨g, 3, none⟩ = some (.int .i64 0) := by rw [hB2.cell]; rfl
    have z3 := hB2.free 3
    have hB3 := hB2.set 3 (.int .i64 0)
    have k4 : (w2.setCell ⟨g, 3, none⟩ (.int .i64 0)).cell? ⟨g, 4, none⟩ = some (.int .i64 2) := by rw [hB3.cell]; rfl
    go_wp2_with fail
    go_ret2
    rw [hn.out]
    exact ⟨rfl, by rw [← HG.out]; exact hb0.trans (below_of_grown (grown_step hg1 (grown_setCell hg2 3 _)) (Nat.le_refl _) (Nat.le_of_lt hblk0.lt))⟩
  · have hql := takeNum_less ht
    have hnm : n ≤ 4611686018427387903 := (num_takeNum ht).2
    have HT := Lib.hid ht
    refine (num_some hblk0 hr0 hl hc ht).mono ?_
    rintro e w1 ⟨q1, A1, c1, e1, rfl, hB1, ho1, hg1, i1, i2⟩
    have hb1 : Below g w w1 := hb0.trans (below_of_grown hg1 (Nat.le_refl _) (Nat.le_of_lt hblk0.lt))
    have hq1 : q1.length < l.length := by rw [e1.out]; exact hql
    clear ht hr0
    rcases ht2 : takeNum q1 with _ | ⟨size, q2⟩
    · have hn : Hid (r = none) := by
        unfold Hid
        rw [HR.out, applyL, HT.out]
        simp only
        rw [← e1.out, ht2]
        split <;> rfl
      have HT2 := Lib.hid ht2
      clear ht2
      go_wp2_with fail
      refine (num_none hB1 (Rd.of_own ho1) (by omega) i1 HT2.out).mono ?_
      rintro e w2 ⟨rfl, hB2, hg2⟩
      have k3 : w2.cell? ⟨g, 3, none⟩ = some (.int .i64 0) := by rw [hB2.cell]; rfl
      have z3 := hB2.free 3
      have hB3 := hB2.set 3 (.int .i64 0)
      have k4 : (w2.setCell ⟨g, 3, none⟩ (.int .i64 0)).cell? ⟨g, 4, none⟩ = some (.int .i64 2) := by rw [hB3.cell]; rfl
      go_wp2_with fail
      go_ret2
      rw [hn.out]
      exact ⟨rfl, by rw [← HG.out]; exact hb1.trans (below_of_grown (grown_setCell hg2 3 _) (Nat.le_refl _) (Nat.le_of_lt hB1.lt))⟩
    have hsm : size ≤ 4611686018427387903 := (num_takeNum ht2).2
    have hq2l := takeNum_less ht2
    have HSZ : Hid ((size : Int) ≤ most → size ≤ 70368744177664) := hm n q size q2 HT.out (by rw [← e1.out]; exact ht2)
    have hrun : Hid (r = if n = b.length then (if (size : Int) ≤ most then dGo b size [] q2 else none) else none) := by
      unfold Hid
      rw [HR.out, applyL, HT.out]
      simp only
      rw [← e1.out, ht2]
    have HT2 := Lib.hid ht2
    clear ht2 hm
    go_wp2_with fail
    refine (num_some hB1 (Rd.of_own ho1) (by omega) i1 HT2.out).mono ?_
    rintro e w2 ⟨q3, A3, c3, e3, rfl, hB2, ho3, hg2, i3, i4⟩
    have hq3 : q3.length < q1.length := by rw [e3.out]; exact hq2l
    rw [← e3.out] at hrun
    have k3 : w2.cell? ⟨g, 3, none⟩ = some (.int .i64 0) := by rw [hB2.cell]; rfl
    have z3 := hB2.free 3
    have hB3 := hB2.set 3 (.int .i64 size)
    have hG3 : w2.grownBy (w2.setCell ⟨g, 3, none⟩ (.int .i64 size)) (some g) := grown_setCell (World.grownBy.refl _ _) 3 _
    have hz1 := hB1.lt
    have hb3 : Below g w (w2.setCell ⟨g, 3, none⟩ (.int .i64 size)) := hb1.trans (below_of_grown (grown_step hg2 hG3) (Nat.le_refl _) (Nat.le_of_lt hz1))
    have ho4 := own_grown ho3 hG3 hz1
    have hs4 := (Seg.of_own ho4).lower (base' := g) (Nat.le_of_lt hz1)
    have k4 : (w2.setCell ⟨g, 3, none⟩ (.int .i64 size)).cell? ⟨g, 4, none⟩ = some (.int .i64 0) := by rw [hB3.cell]; rfl
    have k3' : (w2.setCell ⟨g, 3, none⟩ (.int .i64 size)).cell? ⟨g, 3, none⟩ = some (.int .i64 size) := by rw [hB3.cell]; rfl
    by_cases hnb : n = b.length
    · have hnz : ((n : Int) != (b.length : Int)) = false := by simp; omega
      rw [if_pos hnb] at hrun
      have HNB := Lib.hid hnb
      clear hnb
      by_cases hbig : (size : Int) ≤ most
      · rw [if_pos hbig] at hrun
        have d1 : decide (most < (size : Int)) = false := by simp; omega
        have d1' : ¬ most < (size : Int) := by omega
        have hsz := HSZ.out hbig
        have hinv : ApplyInv r b (.slice Ab b.length cb) size g g w (q3.length + 1) (w2.setCell ⟨g, 3, none⟩ (.int .i64 size)) :=
          ⟨.inl ⟨q3, [], rfl, ⟨A3, none, c3, 0, hB3, hs4, ⟨by simp [bc], .inl ⟨rfl, rfl⟩⟩, Apart.nil _ _⟩, Nat.zero_le _, hsz, by omega, hrun⟩, hb3⟩
        have HI := Lib.hid hinv
        clear hinv hB3 hs4 ho4 ho3 hB2 hB1 hg2 hg1 hb1 hG3 hblk0 hb0 ho1 hrun
        go_wp2_with fail
        go_loopg [] (q3.length + 1) (fun k wr => ApplyInv r b (.slice Ab b.length cb) size g g w k wr)
        case atStart => exact HI.out
        case round =>
          clear HI hb3 k4 k3'
          obtain ⟨hst, hbel⟩ := hrel
          have hs := hbel.size
          rcases hst with ⟨p, o, rfl, hst, hos, hsm, hpl, hgo⟩ | ⟨rfl, hst, hnone⟩
          · have hst0 := Lib.hid hst
            obtain ⟨Ap, Ao, cp, co, hblk, hseg, hown, hap⟩ := hst
            have c1 : wr.cell? ⟨g, 1, none⟩ = some (.slice Ap p.length cp) := by rw [hblk.cell]; rfl
            have c2 : wr.cell? ⟨g, 2, none⟩ = some (.slice Ao o.length co) := by rw [hblk.cell]; rfl
            have c3 : wr.cell? ⟨g, 3, none⟩ = some (.int .i64 size) := by rw [hblk.cell]; rfl
            have c4 : wr.cell? ⟨g, 4, none⟩ = some (.int .i64 0) := by rw [hblk.cell]; rfl
            by_cases hp0 : p.length = 0
            · have hpe : p = [] := List.eq_nil_of_length_eq_zero hp0
              have hpi : ¬ ((0 : Int) < (p.length : Int)) := by omega
              have hpd : decide (0 < p.length) = false := by simp; omega
              have hpd2 : decide ((0 : Int) < (p.length : Int)) = false := by simp; omega
              have hol := own_le hown
              by_cases hfin : o.length = size
              · have hq : Hid (r = some o) := by unfold Hid; rw [hgo.out, hpe, dGo_nil, if_pos hfin]
                have HF := Lib.hid hfin
                have hne : ((o.length : Int) != (size : Int)) = false := by simp; omega
                clear hpe hfin hp0
                go_wp2_with fail
                go_quiet (fail)
                go_wp2_with fail
                go_ret2
                rw [hq.out]
                exact ⟨o, Ao, co, rfl, rfl, Rd.of_own (w := wr.drewN nq) hown, by rw [← HG.out]; exact hbel.drewN' nq, hol.1, hol.2⟩
              · have hq : Hid (r = none) := by unfold Hid; rw [hgo.out, hpe, dGo_nil, if_neg hfin]
                have HF := Lib.hid hfin
                have hne : ((o.length : Int) != (size : Int)) = true := by simp; omega
                clear hpe hfin hp0
                go_wp2_with fail
                go_quiet (fail)
                go_wp2_with fail
                go_ret2
                rw [hq.out]
                exact ⟨rfl, by rw [← HG.out]; exact hbel.drewN' nq⟩
            · have hpi : (0 : Int) < (p.length : Int) := by omega
              have hpd : decide (0 < p.length) = true := by simp; omega
              have hpne : Hid (p ≠ []) := fun h => by rw [h] at hp0; simp at hp0
              have hrb' : Rd wr g 1 Ab b.length (bc b) := hrb.below hbel
              clear hblk hseg hown hap
              go_wp2_with fail
              refine (token_calls g g Ab b cb p o size wr hst0.out hrb' hbl hcb hcbm hpl hos hsm (Nat.le_refl _)).mono ?_
              intro e w5 htok
              rcases htk : tokL b size o p with _ | ⟨o', p'⟩
              · rw [htk] at htok
                obtain ⟨rfl, hb5, hbad⟩ := htok
                have hq : Hid (r = none) := by unfold Hid; rw [hgo.out, tok_none hpne.out htk]
                clear htk
                go_wp2_with fail
                go_roundg 0
                case measure => omega
                case rel => exact ⟨.inr ⟨rfl, hbad, hq⟩, hbel.trans hb5⟩
              · rw [htk] at htok
                obtain ⟨rfl, hb5, o1, p1, he1, hgood⟩ := htok
                obtain ⟨rfl, rfl⟩ := he1.out
                obtain ⟨t1, t2, t3⟩ := tok_some htk
                have hq : Hid (r = dGo b size o1 p1) := by unfold Hid; rw [hgo.out, t1]
                clear htk t1 he1
                go_wp2_with fail
                go_roundg (p1.length + 1)
                case measure => omega
                case rel => exact ⟨.inl ⟨p1, o1, rfl, hgood, t2, hsm, by omega, hq⟩, hbel.trans hb5⟩
          · obtain ⟨vb, vp, vo, vs, hblk, Ap, np, cp, rfl⟩ := hst
            have c1 : wr.cell? ⟨g, 1, none⟩ = some (.slice Ap np cp) := by rw [hblk.cell]; rfl
            have c4 : wr.cell? ⟨g, 4, none⟩ = some (.int .i64 2) := by rw [hblk.cell]; rfl
            by_cases hnp : 0 < np
            · have hpi : (0 : Int) < (np : Int) := by omega
              have hpd : decide (0 < np) = true := by simp; omega
              go_wp2_with fail
              go_quiet (fail)
              go_wp2_with fail
              go_ret2
              rw [hnone.out]
              exact ⟨rfl, by rw [← HG.out]; exact hbel.drewN' nq⟩
            · have hpi : ¬ ((0 : Int) < (np : Int)) := by omega
              have hpd : decide (0 < np) = false := by simp; omega
              go_wp2_with fail
              go_quiet (fail)
              go_wp2_with fail
              go_ret2
              rw [hnone.out]
              exact ⟨rfl, by rw [← HG.out]; exact hbel.drewN' nq⟩
      · rw [if_neg hbig] at hrun
        have d1 : decide (most < (size : Int)) = true := by simp; omega
        have d1' : most < (size : Int) := by omega
        go_wp2_with fail
        go_ret2
        rw [hrun.out]
        exact ⟨rfl, by rw [← HG.out]; exact hb3⟩
    · have hnz : ((n : Int) != (b.length : Int)) = true := by simp; omega
      rw [if_neg hnb] at hrun
      go_wp2_with fail
      go_ret2
      rw [hrun.out]
      exact ⟨rfl, by rw [← HG.out]; exact hb3⟩
theorem Apply_calls (Ab : Option Addr) (b : List UInt8) (cb : Nat) (A : Option Addr) (l : List UInt8) (c : Nat) (most : Int) (w : World) (hrb : Rd w w.heap.size 1 Ab b.length (bc b)) (hbl : b.length ≤ 140737488355328) (hcb : b.length ≤ cb) (hcbm : cb ≤ maxLen)
    (hr : Rd w w.heap.size 1 A l.length (bc l)) (hl : l.length ≤ 140737488355328) (hc : l.length ≤ c) (hm : most ≤ 70368744177664) :
    Calls Try.prog 29 #[.slice Ab b.length cb, .slice A l.length c, .int .i64 most] w (RetApply w (applyL b l most)) :=
  Apply_gen Ab b cb A l c most w hrb hbl hcb hcbm hr hl hc fun _ _ _ _ _ _ h => by omega
end Go.Proofs.Ytpkfkippbanagaa
