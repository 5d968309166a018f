/- The walks of the layer 'press', its seventh part: Open. Conditions: lengths below 2^47, the bound below 2^46. -/
import Derived.Test.YtjikoeokmdnciaaPress5
import Derived.Test.YtjikoeokmdnciaaPress6
import Derived.Deep.LoopGhost
namespace Go.Proofs.Ytjikoeokmdnciaa
open Go.RowKit Go.Dol
set_option linter.unusedVariables false
attribute [local irreducible] wpStill

/-- A number is taken: what is left is the opener's. -/
theorem opn_next {w w1 : World} {base g size d : Nat} {p o q : List UInt8} {Ap Ao : Option Addr} {cp co : Nat} {e : Ending} (hblk : Blk w g 53 [.slice Ap p.length cp, .slice Ao o.length co, .int .i64 size, .int .i64 0])
    (hown : w.ownsRow base 5 1 (.slice Ao o.length co) o.length (bc o)) (hbase : base ≤ w.heap.size) (hg : base ≤ g)
    (h : RetNext w g (.slice Ao o.length co) (.int .i64 size) (.int .i64 0) (some (d, q)) e w1) : e = .returned (.int .i64 (d : Nat)) ∧ OpnSt w1 base g q o size ∧ Below base w w1 := by
  obtain ⟨q1, A1, c1, e1, h1, hblk1, ho1, hg1, i1⟩ := h
  have e1' : q1 = q := e1.out
  subst e1'
  exact ⟨h1, ⟨A1, Ao, c1, co, hblk1, (Seg.of_own ho1).lower hbase, own_other hown hblk (by decide) hg1, Apart.new hown (Seg.of_own ho1) (Nat.le_refl _)⟩, below_of_grown hg1 hg hbase⟩

def OpenInv (r : Option (List UInt8)) (size base g : Nat) (w : World) (k : Nat) (wr : World) : Prop :=
  ((∃ p o : List UInt8, k = p.length + 1 ∧ OpnSt wr base g p o size ∧ o.length ≤ size ∧ size ≤ 70368744177664 ∧ p.length ≤ 140737488355328 ∧ Hid (r = openGo size o p)) ∨ (k = 0 ∧ OpnBad wr g size ∧ Hid (r = none))) ∧ Below base w wr

/-- 'want', of whatever it is asked. -/
theorem want_any (g : Nat) (b : Bool) (x : Nat) (vp vo vs : Value) (w : World) (hb : Blk w g 53 [vp, vo, vs, .int .i64 x]) :
    Calls Try.prog 39 #[.pointer (some ⟨g, 0, none⟩), .bool b] w fun e w' => e = .returned (.bool (b && decide (x = 0))) ∧ Blk w' g 53 [vp, vo, vs, .int .i64 ((if b then x else 2 : Nat) : Nat)] ∧ w.grownBy w' (some g) := by
  cases b with
  | true =>
    refine (want_yes g x vp vo vs w hb).mono ?_
    rintro e w' ⟨rfl, rfl⟩
    refine ⟨?_, hb, World.grownBy.refl _ _⟩
    congr 2
    rw [Bool.true_and, Bool.eq_iff_iff]
    simp
  | false =>
    refine (want_no g _ vp vo vs w hb).mono ?_
    rintro e w' ⟨rfl, h2, h3⟩
    exact ⟨rfl, h2, h3⟩
def NextFact (r : Option (Nat × List UInt8)) (w w' : World) (d : Nat) (A : Option Addr) (n c x : Nat) : Prop :=
  (r = none ∧ A = none ∧ n = 0 ∧ c = 0 ∧ d = 0 ∧ x = 2) ∨ ∃ q : List UInt8, r = some (d, q) ∧ n = q.length ∧ x = 0 ∧ w'.ownsRow w.heap.size 5 1 (.slice A n c) n (bc q)
theorem next_all {w w' : World} {g : Nat} {vo vs : Value} {r : Option (Nat × List UInt8)} (e : Ending) (h : RetNext w g vo vs (.int .i64 0) r e w') :
    ∃ d A n c x, e = .returned (.int .i64 (d : Nat)) ∧ Blk w' g 53 [.slice A n c, vo, vs, .int .i64 (x : Nat)] ∧ w.grownBy w' (some g) ∧ NextFact r w w' d A n c x := by
  rcases r with _ | ⟨d, q⟩
  · exact ⟨0, none, 0, 0, 2, h.1, h.2.1, h.2.2, .inl ⟨rfl, rfl, rfl, rfl, rfl, rfl⟩⟩
  · obtain ⟨q', A, c, h1, h2, h3, h4, h5, _⟩ := h
    have e1 : q' = q := h1.out
    subst e1
    exact ⟨d, A, _, c, 0, h2, h3, h5, .inr ⟨q', rfl, rfl, rfl, h4⟩⟩

theorem OpnSt.len {w : World} {base g size : Nat} {p o : List UInt8} (h : OpnSt w base g p o size) : g < w.heap.size := by
  obtain ⟨_, _, _, _, hb, _⟩ := h
  exact hb.lt

set_option maxRecDepth 100000 in
set_option maxHeartbeats 4000000 in
theorem Open_gen (A : Option Addr) (l : List UInt8) (c : Nat) (most : Int) (w : World) (hr : Rd w w.heap.size 1 A l.length (bc l)) (hl : l.length ≤ 140737488355328) (hc : l.length ≤ c) (hm : ∀ s r, takeNum l = some (s, r) → (s : Int) ≤ most → s ≤ 70368744177664) :
    Calls Try.prog 29 #[.slice A l.length c, .int .i64 most] w (RetOpen w (openL l most)) := by
  obtain ⟨r, hre⟩ : ∃ r, r = openL l most := ⟨_, rfl⟩
  rw [← hre]
  have HR := Lib.hid hre
  clear hre
  obtain ⟨g, hg⟩ : ∃ g, g = w.heap.size := ⟨_, rfl⟩
  go_enter Try.func29, Try.ntmps29
  go_wp2_with fail
  have hblk0 := Blk.new w 53 [.slice A l.length c, .slice none 0 0, .int .i64 0, .int .i64 0]
  have hr0 : Rd (w.alloc (.cells #[.slice A l.length c, .slice none 0 0, .int .i64 0, .int .i64 0] 53)) (w.heap.size + 1) 1 A l.length (bc l) := (hr.alloc (Nat.le_refl _) _).more (Nat.le_succ _)
  have hb0 : Below w.heap.size w (w.alloc (.cells #[.slice A l.length c, .slice none 0 0, .int .i64 0, .int .i64 0] 53)) := (Below.refl _ _).alloc (Nat.le_refl _) _
  have hsz0 : (w.alloc (.cells #[.slice A l.length c, .slice none 0 0, .int .i64 0, .int .i64 0] 53)).heap.size = w.heap.size + 1 := by simp
  obtain ⟨w0, hw0⟩ : ∃ w0, w0 = w.alloc (.cells #[.slice A l.length c, .slice none 0 0, .int .i64 0, .int .i64 0] 53) := ⟨_, rfl⟩
  change Blk (w.alloc (.cells #[.slice A l.length c, .slice none 0 0, .int .i64 0, .int .i64 0] 53)) _ _ _ at hblk0
  rw [← hw0] at hblk0 hr0 hb0 hsz0
  rw [← hsz0] at hr0
  rw [← hw0]
  rw [← hg] at hblk0 hb0 hsz0
  rw [← hg]
  have HG := Lib.hid hg
  clear hw0 hg
  have hgz : g ≤ w0.heap.size := by omega
  have HZ := Lib.hid hsz0
  clear hsz0
  refine (next_calls g A l c _ _ _ w0 hblk0 hr0 hl hc).mono ?_
  intro e w1 hn
  obtain ⟨size, A1, n1, c1, x, rfl, hblk1, hg1, hfact⟩ := next_all e hn
  have hb1 : Below g w w1 := hb0.trans (below_of_grown hg1 (Nat.le_refl _) hgz)
  have k2 : w1.cell? ⟨g, 2, none⟩ = some (.int .i64 0) := by rw [hblk1.cell]; rfl
  have f2 := hblk1.free 2
  have hblk2 : Blk (w1.setCell ⟨g, 2, none⟩ (.int .i64 size)) g 53 [.slice A1 n1 c1, .slice none 0 0, .int .i64 size, .int .i64 x] := hblk1.set 2 _
  have HF := Lib.hid hfact
  clear hfact hn
  go_wp2_with fail
  refine (want_any g _ x _ _ _ _ hblk2).mono ?_
  rintro e w3 ⟨rfl, hblk3, hg3⟩
  have hG2 : w1.grownBy w3 (some g) := grown_step (grown_setCell (World.grownBy.refl _ _) _ _) hg3
  have hb3 : Below g w w3 := hb1.trans (below_of_grown hG2 (Nat.le_refl _) (Nat.le_of_lt hblk1.lt))
  have hinv : ∃ k, OpenInv r size g g w k w3 := by
    rcases HF.out with ⟨h1, h2, h3, h4, h5, h6⟩ | ⟨q, h1, h2, h3, h4⟩
    · subst h2 h3 h4 h5 h6
      refine ⟨0, .inr ⟨rfl, ⟨none, none, 0, 0, 0, 0, ?_⟩, by unfold Hid; rw [HR.out, openL, h1]⟩, hb3⟩
      by_cases hb : ((0 : Nat) : Int) ≤ most <;> simpa [hb] using hblk3
    · subst h2 h3
      by_cases hb : (size : Int) ≤ most
      · refine ⟨_, .inl ⟨q, [], rfl, ⟨A1, none, c1, 0, ?_, (Seg.of_own (own_grown (w' := w3) (h4) hG2 (by have := HZ.out; omega))).lower hgz, ⟨by simp [bc], .inl ⟨rfl, rfl⟩⟩, Apart.nil _ _⟩, Nat.zero_le _, hm _ _ h1 hb, ?_, ?_⟩, hb3⟩
        · simpa [hb] using hblk3
        · have := takeNum_less h1; omega
        · unfold Hid; rw [HR.out, openL, h1]; simp only; rw [if_pos hb]
      · refine ⟨0, .inr ⟨rfl, ⟨A1, none, q.length, c1, 0, 0, ?_⟩, ?_⟩, hb3⟩
        · simpa [hb] using hblk3
        · unfold Hid; rw [HR.out, openL, h1]; simp only; rw [if_neg hb]
  obtain ⟨k0, hinv⟩ := hinv
  clear HF hblk0 hblk1 hblk2 hblk3 hg1 hg3 hG2 hb1 hb3 k2 f2 hb0
  go_wp2_with fail
  go_loopg [] k0 (fun k wr => OpenInv r size g g w k wr)
  case atStart => exact hinv
  case round =>
    clear hinv
    obtain ⟨hst, hbel⟩ := hrel
    have hs := hbel.size
    rcases hst with ⟨p, o, rfl, hst, hos, hsm, hpl, hgo⟩ | ⟨rfl, hst, hnone⟩
    · obtain ⟨Ap, Ao, cp, co, hblk, hseg, hown, hap⟩ := hst
      have c0 : wr.cell? ⟨g, 0, none⟩ = some (.slice Ap p.length cp) := by rw [hblk.cell]; rfl
      have c1 : wr.cell? ⟨g, 1, none⟩ = some (.slice Ao o.length co) := by rw [hblk.cell]; rfl
      have c2 : wr.cell? ⟨g, 2, none⟩ = some (.int .i64 size) := by rw [hblk.cell]; rfl
      have c3 : wr.cell? ⟨g, 3, none⟩ = some (.int .i64 0) := by rw [hblk.cell]; rfl
      have hbase : g ≤ wr.heap.size := Nat.le_of_lt hblk.lt
      by_cases hp0 : p.length = 0
      · have hpe : p = [] := List.eq_nil_of_length_eq_zero hp0
        have hpi : ¬ ((0 : Int) < (p.length : Int)) := by omega
        have hpd : decide (0 < p.length) = false := by simp; omega
        have hol := own_le hown
        by_cases hfin : o.length = size
        · have hq : Hid (r = some o) := by unfold Hid; rw [hgo.out, hpe, openGo_nil, if_pos hfin]
          have HF := Lib.hid hfin
          have hne : ((o.length : Int) == (size : Int)) = true := by simp; omega
          clear hpe hfin hp0
          go_wp2_with fail
          go_still_tail 11, (by kernel_rfl)
          change wpList _ _ _ _ _ (World.drew wr)
          go_wp2_with fail
          refine (want_yes g 0 _ _ _ (World.drew wr) hblk.drew).mono ?_
          rintro e w4 ⟨rfl, hw4⟩
          have hblk4 := hblk.drew
          rw [hw4] at hblk4
          have q1 : w4.cell? ⟨g, 1, none⟩ = some (.slice Ao o.length co) := by rw [hblk4.cell]; rfl
          have hown4 : w4.ownsRow g 5 1 (.slice Ao o.length co) o.length (bc o) := by rw [← hw4]; exact hown
          have hb4 : Below g w w4 := by rw [← hw4]; exact hbel.drew
          clear hw4 hblk hown hseg
          go_wp2_with fail
          go_ret2
          rw [hq.out]
          exact ⟨o, Ao, co, rfl, rfl, Rd.of_own hown4, by rw [← HG.out]; exact hb4, hol.1, hol.2⟩
        · have hq : Hid (r = none) := by unfold Hid; rw [hgo.out, hpe, openGo_nil, if_neg hfin]
          have HF := Lib.hid hfin
          have hne : ((o.length : Int) == (size : Int)) = false := by simp; omega
          clear hpe hfin hp0
          go_wp2_with fail
          go_still_tail 11, (by kernel_rfl)
          change wpList _ _ _ _ _ (World.drew wr)
          go_wp2_with fail
          refine (want_no g _ _ _ _ (World.drew wr) hblk.drew).mono ?_
          rintro e w4 ⟨rfl, hb4, hg4⟩
          go_wp2_with fail
          go_ret2
          rw [hq.out]
          exact ⟨rfl, by rw [← HG.out]; exact hbel.drew.trans (below_of_grown hg4 (Nat.le_refl _) hbase)⟩
      · have hpi : (0 : Int) < (p.length : Int) := by omega
        have hpd : decide (0 < p.length) = true := by simp; omega
        have hpne : Hid (p ≠ []) := fun h => by rw [h] at hp0; simp at hp0
        have hpc := hseg.2.1
        go_wp2_with fail
        refine (next_calls g Ap p cp _ _ _ wr hblk hseg.rd hpl hpc).mono ?_
        intro e w4 hn
        rcases ht : takeNum p with _ | ⟨t, q⟩
        · rw [ht] at hn
          obtain ⟨rfl, hblk4, hg4⟩ := hn
          have hq : Hid (r = none) := by unfold Hid; rw [hgo.out, openGo_none hpne.out ht]
          have hbit : bits .and .i64 0 1 = 0 := by decide
          clear ht
          go_wp2_with fail
          refine (orun_bad g none Ao 0 0 o.length co size 1 _ w4 hblk4 (by omega) hos (by omega) (by omega) (by omega) (by omega)).mono ?_
          rintro e w5 ⟨rfl, hbad, hg5⟩
          go_wp2_with fail
          go_roundg 0
          case measure => omega
          case rel => exact ⟨.inr ⟨rfl, hbad, hq⟩, hbel.trans (below_of_grown (grown_step hg4 hg5) (Nat.le_refl _) hbase)⟩
        · rw [ht] at hn
          obtain ⟨rfl, hst4, hb4⟩ := opn_next hblk hown hbase (Nat.le_refl _) hn
          have hql := takeNum_less ht
          have htm : t ≤ 4611686018427387903 := (num_takeNum ht).2
          have hbit : bits .and .i64 (t : Int) 1 = ((t % 2 : Nat) : Int) := i64_and_one t (by omega)
          have hb04 : Below g w w4 := hbel.trans hb4
          have hlt4 := hst4.len
          obtain ⟨y, hy⟩ : ∃ y, y = t / 2 := ⟨_, rfl⟩
          have hyi : (t : Int) / 2 = (y : Int) := by omega
          have hyq : (t : Int).tdiv 2 = (y : Int) := by rw [Int.tdiv_eq_ediv_of_nonneg (by omega)]; exact hyi
          have hyb : y ≤ 2305843009213693951 := by omega
          have HY := Lib.hid hy
          have HT := Lib.hid ht
          clear ht hy hn hb4 hblk hseg hown hap c0 c1 c2 c3
          by_cases hev : t % 2 = 0
          · rw [hev] at hbit
            have hrun : Hid (r = if y + 1 ≤ size - o.length ∧ y + 1 ≤ q.length then openGo size (o ++ q.take (y + 1)) (q.drop (y + 1)) else none) := by
              unfold Hid
              rw [hgo.out, openGo_run HT.out hev, ← HY.out]
            have HE := Lib.hid hev
            clear hev
            by_cases hcond : y + 1 ≤ size - o.length ∧ y + 1 ≤ q.length
            · rw [if_pos hcond] at hrun
              have hc1 := hcond.1
              have hc2 := hcond.2
              clear hcond
              go_wp2_with fail
              refine (orun_good g g q o size (y + 1) w4 hst4 hc1 hc2 hos (by omega) (by omega) (by omega) (Nat.le_refl _) (Nat.le_of_lt hlt4)).mono ?_
              rintro e w5 ⟨rfl, hst5, hb5⟩
              go_wp2_with fail
              go_roundg ((q.drop (y + 1)).length + 1)
              case measure => rw [List.length_drop]; omega
              case rel => exact ⟨.inl ⟨_, _, rfl, hst5, by rw [List.length_append, List.length_take]; omega, hsm, by rw [List.length_drop]; omega, hrun⟩, hb04.trans hb5⟩
            · rw [if_neg hcond] at hrun
              obtain ⟨Ap4, Ao4, cp4, co4, hblk4, _⟩ := hst4
              go_wp2_with fail
              refine (orun_bad g Ap4 Ao4 q.length cp4 o.length co4 size (y + 1) _ w4 hblk4 hcond hos (by omega) (by omega) (by omega) (by omega)).mono ?_
              rintro e w5 ⟨rfl, hbad, hg5⟩
              go_wp2_with fail
              go_roundg 0
              case measure => omega
              case rel => exact ⟨.inr ⟨rfl, hbad, hrun⟩, hb04.trans (below_of_grown hg5 (Nat.le_refl _) (Nat.le_of_lt hlt4))⟩
          · have hod : t % 2 = 1 := by omega
            rw [hod] at hbit
            have HO := Lib.hid hod
            clear hev hod
            by_cases hgood : ∃ d q3, takeNum q = some (d, q3) ∧ (y + 4 ≤ size - o.length ∧ y + 4 ≤ 259 ∧ 1 ≤ d ∧ d ≤ o.length ∧ d ≤ 4096)
            · obtain ⟨d, q3, ht2, g1, g2, g3, g4, g5⟩ := hgood
              have hcp : Hid (r = openGo size (copyN o d (y + 4)) q3) := by
                unfold Hid
                rw [hgo.out, openGo_copy HT.out HO.out ht2, ← HY.out, if_pos ⟨g1, g2, g3, g4, g5⟩]
              have hql3 := takeNum_less ht2
              have HT2 := Lib.hid ht2
              clear ht2
              go_wp2_with fail
              refine (copied_good g g q q3 o size (y + 4) d w4 hst4 HT2.out g1 g2 g3 g4 g5 hos hsm (by omega) (Nat.le_refl _) (Nat.le_of_lt hlt4)).mono ?_
              rintro e w5 ⟨rfl, hst5, hb5⟩
              go_wp2_with fail
              go_roundg (q3.length + 1)
              case measure => omega
              case rel => exact ⟨.inl ⟨_, _, rfl, hst5, by rw [copyN_length]; omega, hsm, by omega, hcp⟩, hb04.trans hb5⟩
            · have hbadx : ∃ d x, ((takeNum q = none ∧ d = 0 ∧ x = 2) ∨ ∃ q3, takeNum q = some (d, q3) ∧ x = 0) ∧ ¬ (y + 4 ≤ size - o.length ∧ y + 4 ≤ 259 ∧ 1 ≤ d ∧ d ≤ o.length ∧ d ≤ 4096) ∧ d ≤ 4611686018427387903 ∧ Hid (r = none) := by
                rcases ht2 : takeNum q with _ | ⟨d, q3⟩
                · exact ⟨0, 2, .inl ⟨rfl, rfl, rfl⟩, by omega, by omega, by unfold Hid; rw [hgo.out, openGo_copy_none HT.out HO.out ht2]⟩
                · refine ⟨d, 0, .inr ⟨q3, rfl, rfl⟩, fun h => hgood ⟨d, q3, ht2, h⟩, (num_takeNum ht2).2, ?_⟩
                  unfold Hid
                  rw [hgo.out, openGo_copy HT.out HO.out ht2, ← HY.out, if_neg (fun h => hgood ⟨d, q3, ht2, h⟩)]
              obtain ⟨d, x, hx1, hx2, hx3, hx4⟩ := hbadx
              have HX1 := Lib.hid hx1
              have HX2 := Lib.hid hx2
              clear hx1 hx2 hgood
              go_wp2_with fail
              refine (copied_bad g g q o size (y + 4) d x w4 hst4 HX1.out HX2.out hos hsm (by omega) hx3 (by omega) (Nat.le_refl _)).mono ?_
              rintro e w5 ⟨rfl, hbad, hg5⟩
              go_wp2_with fail
              go_roundg 0
              case measure => omega
              case rel => exact ⟨.inr ⟨rfl, hbad, hx4⟩, hb04.trans (below_of_grown hg5 (Nat.le_refl _) (Nat.le_of_lt hlt4))⟩
    · obtain ⟨Ap, Ao, np, cp, no, co, hblk⟩ := hst
      have c0 : wr.cell? ⟨g, 0, none⟩ = some (.slice Ap np cp) := by rw [hblk.cell]; rfl
      have c1 : wr.cell? ⟨g, 1, none⟩ = some (.slice Ao no co) := by rw [hblk.cell]; rfl
      have c2 : wr.cell? ⟨g, 2, none⟩ = some (.int .i64 size) := by rw [hblk.cell]; rfl
      have c3 : wr.cell? ⟨g, 3, none⟩ = some (.int .i64 2) := by rw [hblk.cell]; rfl
      have hbase : g ≤ wr.heap.size := Nat.le_of_lt hblk.lt
      by_cases hnp : 0 < np
      · have hpi : (0 : Int) < (np : Int) := by omega
        have hpd : decide (0 < np) = true := by simp; omega
        go_wp2_with fail
        go_still_tail 11, (by kernel_rfl)
        change wpList _ _ _ _ _ (World.drew wr)
        go_wp2_with fail
        refine (want_any g _ 2 _ _ _ (World.drew wr) hblk.drew).mono ?_
        rintro e w4 ⟨rfl, hb4, hg4⟩
        go_wp2_with fail
        go_ret2
        rw [hnone.out]
        exact ⟨rfl, by rw [← HG.out]; exact hbel.drew.trans (below_of_grown hg4 (Nat.le_refl _) hbase)⟩
      · have hpi : ¬ ((0 : Int) < (np : Int)) := by omega
        have hpd : decide (0 < np) = false := by simp; omega
        go_wp2_with fail
        go_still_tail 11, (by kernel_rfl)
        change wpList _ _ _ _ _ (World.drew wr)
        go_wp2_with fail
        refine (want_any g _ 2 _ _ _ (World.drew wr) hblk.drew).mono ?_
        rintro e w4 ⟨rfl, hb4, hg4⟩
        go_wp2_with fail
        go_ret2
        rw [hnone.out]
        exact ⟨rfl, by rw [← HG.out]; exact hbel.drew.trans (below_of_grown hg4 (Nat.le_refl _) hbase)⟩
theorem Open_calls (A : Option Addr) (l : List UInt8) (c : Nat) (most : Int) (w : World) (hr : Rd w w.heap.size 1 A l.length (bc l)) (hl : l.length ≤ 140737488355328) (hc : l.length ≤ c) (hm : most ≤ 70368744177664) :
    Calls Try.prog 29 #[.slice A l.length c, .int .i64 most] w (RetOpen w (openL l most)) := Open_gen A l c most w hr hl hc fun s r _ h => by omega
end Go.Proofs.Ytjikoeokmdnciaa
