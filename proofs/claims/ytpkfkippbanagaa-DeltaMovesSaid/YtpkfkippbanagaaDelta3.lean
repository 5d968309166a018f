/- The walks of the layer 'delta', its third part: the document's Apply. Conditions: lengths below 2^47. NOT BUILT YET. Loop: go_loopw [9, 12] (p, out); append: (.tmp 98) (.tmp 106). -/
import Derived.Test.YtpkfkippbanagaaDelta2
namespace Go.Proofs.Ytpkfkippbanagaa
open Go.RowKit Go.Dol
set_option linter.unusedVariables false

theorem _root_.Go.Dol.Rd.mid {w : World} {B : Nat} {A : Option Addr} {l : List UInt8} {lo n m cap : Nat} (h : Rd w B 1 A l.length (bc l)) (hm : m = n) (h1 : lo + n ≤ l.length) (hc : l.length ≤ cap) (hne : ¬ cap = lo) : Rd w B 1 (A.map fun x => x.add lo) m (bc ((l.drop lo).take n)) := by
  subst hm
  have := h.cut (lo := lo) (hi := lo + m) (by omega) h1 hc
  rw [if_neg hne, Nat.mul_one, Nat.mul_one, bc_drop, bc_take, Nat.add_sub_cancel_left] at this
  exact this

/-- The target, or none. -/
def RetApply (w : World) (r : Option (List UInt8)) (e : Ending) (w' : World) : Prop :=
  match r with
  | none => e = .returned (.tuple #[.slice none 0 0, .int .i64 2]) ∧ Below w.heap.size w w'
  | some q => ∃ (q' : List UInt8) (A : Option Addr) (c : Nat), Hid (q' = q) ∧ e = .returned (.tuple #[.slice A q'.length c, .int .i64 0]) ∧ Rd w' w'.heap.size 1 A q'.length (bc q') ∧ Below w.heap.size w w' ∧ q'.length ≤ c ∧ c ≤ maxLen

def ApplyRel (base : List UInt8) (size : Nat) (r : Option (List UInt8)) (w : World) (p out : Value) (wr : World) : Prop :=
  ∃ (l o : List UInt8) (A Ao : Option Addr) (c co : Nat), p = .slice A l.length c ∧ out = .slice Ao o.length co ∧ Hid (r = dGo base size o l) ∧ o.length ≤ size ∧ l.length ≤ 140737488355328 ∧
    Seg wr w.heap.size 5 1 A l.length c (bc l) ∧ wr.ownsRow w.heap.size 5 1 (.slice Ao o.length co) o.length (bc o) ∧ Apart A c (.slice Ao o.length co) ∧ Below w.heap.size w wr

set_option maxRecDepth 100000 in
set_option maxHeartbeats 4000000 in
theorem refApply_calls (Ab : Option Addr) (b : List UInt8) (cb : Nat) (A : Option Addr) (l : List UInt8) (c : Nat) (most : Int) (w : World) (hrb : Rd w w.heap.size 1 Ab b.length (bc b)) (hbl : b.length ≤ 140737488355328) (hcb : b.length ≤ cb)
    (hr : Rd w w.heap.size 1 A l.length (bc l)) (hl : l.length ≤ 140737488355328) (hc : l.length ≤ c) (hm : most ≤ 70368744177664) :
    Calls Try.prog 30 #[.slice Ab b.length cb, .slice A l.length c, .int .i64 most] w (RetApply w (applyL b l most)) := by
  obtain ⟨r, hre⟩ : ∃ r, r = applyL b l most := ⟨_, rfl⟩
  rw [← hre]
  have HR := Lib.hid hre
  clear hre
  go_enter Try.func30, Try.ntmps30
  go_wp2_with fail
  refine (RefTakeNum_calls A l c w hr hl hc).mono ?_
  intro e w1 h1
  rcases ht : takeNum l with _ | ⟨nb, q⟩
  · rw [ht] at h1
    obtain ⟨rfl, hb1⟩ := h1
    have hn : Hid (r = none) := by unfold Hid; rw [HR.out, applyL, ht]
    clear ht
    go_wp2_with fail
    go_ret2
    rw [hn.out]
    exact ⟨rfl, hb1⟩
  rw [ht] at h1
  obtain ⟨q1, A1, c1, e1, rfl, ho1, hb1, i1, i2⟩ := h1
  have hql : q1.length < l.length := by rw [e1.out]; exact takeNum_less ht
  by_cases hnb : nb = b.length
  · have hnz : ((nb : Int) != (b.length : Int)) = false := by simp; omega
    have h2 : Hid (r = match takeNum q1 with | none => none | some (size, q2) => if (size : Int) ≤ most then dGo b size [] q2 else none) := by
      unfold Hid
      rw [HR.out, applyL, ht, e1.out]
      simp only
      rw [if_pos hnb]
      cases takeNum q <;> rfl
    have HNB := Lib.hid hnb
    clear ht hnb
    have s1 := hb1.size
    go_wp2_with fail
    refine (RefTakeNum_calls A1 q1 c1 w1 (Rd.of_own ho1) (by omega) i1).mono ?_
    intro e w2 h3
    rcases ht : takeNum q1 with _ | ⟨size, q⟩
    · rw [ht] at h3
      obtain ⟨rfl, hb2⟩ := h3
      have hn : Hid (r = none) := by unfold Hid; rw [h2.out, ht]
      clear ht
      go_wp2_with fail
      go_ret2
      rw [hn.out]
      exact ⟨rfl, hb1.next hb2⟩
    rw [ht] at h3
    obtain ⟨q2, A2, c2, e2, rfl, ho2, hb2, i3, i4⟩ := h3
    have hql2 : q2.length < q1.length := by rw [e2.out]; exact takeNum_less ht
    by_cases hbig : most < (size : Int)
    · have hn : Hid (r = none) := by
        unfold Hid
        rw [h2.out, ht]
        simp only
        rw [if_neg (by omega)]
      clear ht
      go_wp2_with fail
      go_ret2
      rw [hn.out]
      exact ⟨rfl, hb1.next hb2⟩
    have hgo : Hid (r = dGo b size [] q2) := by
      unfold Hid
      rw [h2.out, ht, e2.out]
      simp only
      rw [if_pos (by omega)]
    have hsm : size ≤ 70368744177664 := by omega
    clear ht
    go_wp2_with fail
    go_loopw [9, 12] (fun p out wr => ApplyRel b size r w p out wr) (fun p _ _ => lenV p)
    case atStart =>
      exact ⟨q2, [], A2, none, c2, 0, rfl, rfl, hgo, Nat.zero_le _, by omega, (Seg.of_own ho2).lower s1, ⟨by simp [bc], .inl ⟨rfl, rfl⟩⟩, Apart.nil _ _, hb1.next hb2⟩
    case round =>
      clear ho1 hb1 hgo e1 hql ho2 hb2 e2 hql2 h2 i1 i2 i3 i4 s1
      obtain ⟨p, o, Ap, Ao, cp, co, rfl, rfl, hgo, hos, hpl, hseg, hown, hap, hbel⟩ := hrel
      have hs := hbel.size
      have hol := own_le hown
      have hpc := hseg.2.1
      rcases Nat.eq_zero_or_pos p.length with hp0 | hp0
      · have hpe : p = [] := List.eq_nil_of_length_eq_zero hp0
        have HP := Lib.hid hp0
        have hpi : ¬ ((0 : Int) < (p.length : Int)) := by omega
        have hpd : decide (0 < p.length) = false := by simp; omega
        by_cases hfin : o.length = size
        · have hq : Hid (r = some o) := by unfold Hid; rw [hgo.out, hpe, dGo_nil, if_pos hfin]
          have HF := Lib.hid hfin
          have hne : ((o.length : Int) != (size : Int)) = false := by simp; omega
          clear hpe hfin hp0
          go_wp2_with fail
          go_ret2
          rw [hq.out]
          exact ⟨o, Ao, co, rfl, rfl, Rd.of_own hown, hbel, hol.1, hol.2⟩
        · have hq : Hid (r = none) := by unfold Hid; rw [hgo.out, hpe, dGo_nil, if_neg hfin]
          have HF := Lib.hid hfin
          have hne : ((o.length : Int) != (size : Int)) = true := by simp; omega
          clear hpe hfin hp0
          go_wp2_with fail
          go_ret2
          rw [hq.out]
          exact ⟨rfl, hbel⟩
      · have hpi : (0 : Int) < (p.length : Int) := by omega
        have hpne : Hid (p ≠ []) := fun h => by rw [h] at hp0; simp at hp0
        go_wp2_with fail
        refine (RefTakeNum_calls Ap p cp wr hseg.rd hpl hpc).mono ?_
        intro e w2 h2
        rcases ht : takeNum p with _ | ⟨t, q⟩
        · rw [ht] at h2
          obtain ⟨rfl, hb2⟩ := h2
          have hn : Hid (r = none) := by unfold Hid; rw [hgo.out, dGo_none hpne.out ht]
          clear ht
          go_wp2_with fail
          go_ret2
          rw [hn.out]
          exact ⟨rfl, hbel.trans (hb2.mono hs)⟩
        rw [ht] at h2
        obtain ⟨q2, A2, c2, e2, rfl, ho2, hb2, j1, j2⟩ := h2
        have hql : q2.length < p.length := by rw [e2.out]; exact takeNum_less ht
        have htm : t ≤ 4611686018427387903 := (num_takeNum ht).2
        have HT := Lib.hid ht
        have hs2 := hb2.size
        have hown2 := own_belowW hown hb2
        have hap2 : Apart A2 c2 (.slice Ao o.length co) := Apart.new hown (Seg.of_own ho2) (Nat.le_refl _)
        have hbel2 : Below w.heap.size w w2 := hbel.trans (hb2.mono hs)
        clear ht hap hseg hown
        obtain ⟨y, hy⟩ : ∃ y, y = t / 2 := ⟨_, rfl⟩
        have hyi : (t : Int) / 2 = (y : Int) := by omega
        have hyq : (t : Int).tdiv 2 = (y : Int) := by rw [Int.tdiv_eq_ediv_of_nonneg (by omega)]; exact hyi
        have HY := Lib.hid hy
        have hyb : y ≤ 2305843009213693951 := by omega
        clear hy
        have hbadr : ¬ (y + 1 ≤ size - o.length) → Hid (r = none) := fun hh => by
          unfold Hid
          rw [hgo.out]
          exact dGo_big HT.out (by rw [← HY.out]; exact hh)
        have HBR := Lib.hid hbadr
        clear hbadr
        by_cases hroom : y + 1 ≤ size - o.length
        · have hri : ¬ ((size : Int) - (o.length : Int) < (y : Int) + 1) := by omega
          have hrd : decide ((size : Int) - (o.length : Int) < (y : Int) + 1) = false := by simp; omega
          clear HBR
          by_cases hev : t % 2 = 0
          · have hm0 : (t : Int) % 2 = 0 := by omega
            have hm1 : (t : Int).tmod 2 = 0 := by rw [Int.tmod_eq_emod_of_nonneg (by omega)]; exact hm0
            have hrun : Hid (r = if y + 1 ≤ size - o.length ∧ y + 1 ≤ q2.length then dGo b size (o ++ q2.take (y + 1)) (q2.drop (y + 1)) else none) := by
              unfold Hid
              rw [hgo.out, dGo_run HT.out hev, ← HY.out, e2.out]
            have HEV := Lib.hid hev
            clear hev
            by_cases hfit : y + 1 ≤ q2.length
            · rw [if_pos ⟨hroom, hfit⟩] at hrun
              have hfi : ¬ ((q2.length : Int) < (y : Int) + 1) := by omega
              have hfd : decide ((q2.length : Int) < (y : Int) + 1) = false := by simp; omega
              go_wp2_with (at_builtin; refine app8 rfl (.tmp 98) (.tmp 106) rfl w.heap.size _ o.length o rfl hown2 w2.heap.size A2 (y + 1) c2 (q2.take (y + 1)) rfl ((Rd.of_own ho2).head (l := q2) hfit) (by omega) (by omega) ?_)
              intro o3 Ao3 co3 w3 e3 ho3 hb3 hg3 hw3 j3 j4
              have ho3l : Hid (o3.length = o.length + (y + 1)) := by unfold Hid; rw [e3.out, List.length_append, List.length_take]; omega
              have hseg2 := Seg.of_own ho2
              have hseg3 := (hseg2.keepR hg3 hap2).lower (base' := w.heap.size) hs
              have hap3 : Apart A2 c2 (.slice Ao3 o3.length co3) := hap2.app hseg2 (Nat.le_refl _) hw3.out
              have htl := hseg3.tail8 hfit
              have hbel3 := hbel2.trans hb3
              have hr3 : Hid (r = dGo b size o3 (q2.drop (y + 1))) := by unfold Hid; rw [hrun.out, e3.out]
              have hdl : Hid ((q2.drop (y + 1)).length = q2.length - (y + 1)) := by unfold Hid; simp
              by_cases hcc : c2 = y + 1
              · rw [if_pos hcc] at htl
                have HCC := Lib.hid hcc
                go_wp2_with fail
                rw [← hdl.out] at htl ⊢
                have hz : c2 - (y + 1) = 0 := by have := HCC.out; omega
                rw [hz] at htl
                refine ⟨⟨q2.drop (y + 1), o3, A2, Ao3, 0, co3, rfl, rfl, hr3, by rw [ho3l.out]; omega, by rw [hdl.out]; omega, htl, ho3, hap3.piece (by omega) rfl, hbel3⟩, ?_⟩
                show (q2.drop (y + 1)).length < p.length
                rw [hdl.out]
                omega
              · rw [if_neg hcc, add_spelt] at htl
                have HCC := Lib.hid hcc
                go_wp2_with fail
                rw [← hdl.out] at htl ⊢
                refine ⟨⟨q2.drop (y + 1), o3, _, Ao3, c2 - (y + 1), co3, rfl, rfl, hr3, by rw [ho3l.out]; omega, by rw [hdl.out]; omega, htl, ho3, hap3.piece (by omega) (by rw [← add_spelt, segBlock_add]), hbel3⟩, ?_⟩
                show (q2.drop (y + 1)).length < p.length
                rw [hdl.out]
                omega
            · rw [if_neg (fun hh => hfit hh.2)] at hrun
              have hfi : (q2.length : Int) < (y : Int) + 1 := by omega
              have hfd : decide ((q2.length : Int) < (y : Int) + 1) = true := by simp; omega
              go_wp2_with fail
              go_ret2
              rw [hrun.out]
              exact ⟨rfl, hbel2⟩
          · have hm0 : (t : Int) % 2 = 1 := by omega
            have hm1 : (t : Int).tmod 2 = 1 := by rw [Int.tmod_eq_emod_of_nonneg (by omega)]; exact hm0
            have hod : Hid (t % 2 = 1) := by unfold Hid; omega
            clear hev
            go_wp2_with fail
            refine (RefTakeNum_calls A2 q2 c2 w2 (Rd.of_own ho2) (by omega) j1).mono ?_
            intro e w3 h3
            rcases ht : takeNum q2 with _ | ⟨d, q⟩
            · rw [ht] at h3
              obtain ⟨rfl, hb3⟩ := h3
              have hn : Hid (r = none) := by unfold Hid; rw [hgo.out, dGo_copy_none HT.out hod.out (by rw [← e2.out]; exact ht)]
              clear ht
              go_wp2_with fail
              go_ret2
              rw [hn.out]
              exact ⟨rfl, hbel2.trans (hb3.mono (Nat.le_trans hs hs2))⟩
            rw [ht] at h3
            obtain ⟨q3, A3, c3, e3, rfl, ho3, hb3, j3, j4⟩ := h3
            have hql3 : q3.length < q2.length := by rw [e3.out]; exact takeNum_less ht
            have hdm : d ≤ 4611686018427387903 := (num_takeNum ht).2
            have hcp : Hid (r = if y + 1 ≤ size - o.length ∧ d + (y + 1) ≤ b.length then dGo b size (o ++ (b.drop d).take (y + 1)) q3 else none) := by
              unfold Hid
              rw [hgo.out, dGo_copy HT.out hod.out (by rw [← e2.out]; exact ht), ← HY.out, e3.out]
            have hs3 := hb3.size
            have hbel3 := hbel2.trans (hb3.mono (Nat.le_trans hs hs2))
            have hown3 := own_belowW hown2 hb3
            have hap3 : Apart A3 c3 (.slice Ao o.length co) := Apart.new hown2 (Seg.of_own ho3) (Nat.le_refl _)
            have hseg3 := (Seg.of_own ho3).lower (base' := w.heap.size) (Nat.le_trans hs hs2)
            clear ht hown2 hap2 ho2
            by_cases hfit : d + (y + 1) ≤ b.length
            · rw [if_pos ⟨hroom, hfit⟩] at hcp
              have g1 : ¬ ((b.length : Int) < (d : Int)) := by omega
              have g1d : decide ((b.length : Int) < (d : Int)) = false := by simp; omega
              have g2 : ¬ ((b.length : Int) - (d : Int) < (y : Int) + 1) := by omega
              have g2d : decide ((b.length : Int) - (d : Int) < (y : Int) + 1) = false := by simp; omega
              have f1 : IntKind.i64.wrap ((d : Int) + (y : Int)) = (d : Int) + (y : Int) := IntWalk.i64_in _ (by omega)
              have f2 : IntKind.i64.wrap ((d : Int) + (y : Int) + 1) = (d : Int) + (y : Int) + 1 := IntWalk.i64_in _ (by omega)
              have hcd : ¬ cb = d := by omega
              have hrm : Rd w3 w.heap.size 1 (Ab.map fun x => x.add d) (d + y + 1 - d) (bc ((b.drop d).take (y + 1))) := (hrb.below hbel3).mid (by omega) hfit hcb hcd
              go_wp2_with (at_builtin; refine app8 rfl (.tmp 98) (.tmp 106) rfl w.heap.size _ o.length o rfl hown3 w.heap.size _ (d + y + 1 - d) (cb - d) ((b.drop d).take (y + 1)) rfl hrm (by omega) (by omega) ?_)
              intro o4 Ao4 co4 w4 e4 ho4 hb4 hg4 hw4 j5 j6
              have ho4l : o4.length = o.length + (y + 1) := by rw [e4.out, List.length_append, List.length_take, List.length_drop]; omega
              have ho4s : o4.length ≤ size := by omega
              have hr4 : Hid (r = dGo b size o4 q3) := by unfold Hid; rw [hcp.out, e4.out]
              clear ho4l
              go_wp2_with fail
              exact ⟨⟨q3, o4, A3, Ao4, c3, co4, rfl, rfl, hr4, ho4s, by omega, hseg3.keepR hg4 hap3, ho4, hap3.app hseg3 (Nat.le_refl _) hw4.out, hbel3.trans hb4⟩, by show q3.length < p.length; omega⟩
            · rw [if_neg (fun hh => hfit hh.2)] at hcp
              by_cases h1 : d ≤ b.length
              · have g1 : ¬ ((b.length : Int) < (d : Int)) := by omega
                have g1d : decide ((b.length : Int) < (d : Int)) = false := by simp; omega
                have g2 : ((b.length : Int) - (d : Int) < (y : Int) + 1) := by omega
                have g2d : decide ((b.length : Int) - (d : Int) < (y : Int) + 1) = true := by simp; omega
                go_wp2_with fail
                go_ret2
                rw [hcp.out]
                exact ⟨rfl, hbel3⟩
              · have g1 : (b.length : Int) < (d : Int) := by omega
                have g1d : decide ((b.length : Int) < (d : Int)) = true := by simp; omega
                go_wp2_with fail
                go_ret2
                rw [hcp.out]
                exact ⟨rfl, hbel3⟩
        · have hri : (size : Int) - (o.length : Int) < (y : Int) + 1 := by omega
          have hrd : decide ((size : Int) - (o.length : Int) < (y : Int) + 1) = true := by simp; omega
          have hn := HBR.out hroom
          go_wp2_with fail
          go_ret2
          rw [hn.out]
          exact ⟨rfl, hbel2⟩
  · have hnz : ((nb : Int) != (b.length : Int)) = true := by simp; omega
    have hn : Hid (r = none) := by unfold Hid; rw [HR.out]; exact applyL_other (base := []) ht hnb most
    clear ht
    go_wp2_with fail
    go_ret2
    rw [hn.out]
    exact ⟨rfl, hb1⟩
end Go.Proofs.Ytpkfkippbanagaa
