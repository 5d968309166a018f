/- The walk of the law DiskPlays. Conditions: at most 2^47 commands. -/
import Derived.Test.YtogjlfpoedeooaaStep
import Derived.Test.YtogjlfpoedeooaaDiskAwake
namespace Go.Proofs.Ytogjlfpoedeooaa
open Go.RowKit Go.Dol
set_option linter.unusedVariables false
theorem newOk {cap : Int} (h0 : 0 ≤ cap) (h1 : cap ≤ 1099511627776) : OkD (newD cap) := ⟨List.Pairwise.nil, h0, h1, h0, by show (-1 : Int) ≤ -1; omega, by show (-1 : Int) ≤ _; omega, fun f hf => (List.not_mem_nil hf).elim⟩
/-- The rounds: the two disks are alike. -/
def PlRel (s : List OpA) (g m gr : Nat) (w : World) (i : Value) (wr : World) : Prop :=
  ∃ (k : Nat) (D : Dk), i = .int .i64 k ∧ k ≤ s.length ∧ OkD D ∧ Dsk wr g m D ∧ Rdk wr gr D ∧ Below w.heap.size w wr
set_option maxRecDepth 100000 in
set_option maxHeartbeats 16000000 in
theorem diskPlays_walk (cap : Int) (As : Option Addr) (s : List OpA) (cs : Nat) (w : World) (hcw : (Lit.int .i64 cap).wf = true) (hr : Rd w w.heap.size 5 As s.length (oc s)) (HOx : Ops8 w w.heap.size s) (hsl : s.length ≤ 140737488355328) :
    Calls Try.prog 8 #[.int .i64 cap, .slice As s.length cs] w fun e w' => e = .returned (.bool true) ∧ Below w.heap.size w w' := by
  have hAw := awake4_calls w
  by_cases hc : cap < 0 ∨ 1099511627776 < cap
  · clear hcw
    go_enter Try.func8, Try.ntmps8
    go_wp2_with fail
    refine hAw.mono ?_
    rintro e w1 ⟨rfl, hb1⟩
    clear hAw
    go_wp2_with (first
      | (go_at_call 31; (with_reducible refine (NewNo_calls cap _ hc).mono ?_); rintro e z0 ⟨rfl, hz0⟩; obtain rfl := hz0.symm)
      | (go_at_call 38; (with_reducible refine (refNewNo_calls cap _ hc).mono ?_); rintro e z0 ⟨rfl, hz0⟩; obtain rfl := hz0.symm))
    go_loopw [10] (fun i wr => wr = w1) (fun i _ => 0)
    case atStart => rfl
    case round =>
      obtain rfl := hrel
      go_wp2_with fail
      go_ret
      exact ⟨rfl, hb1⟩
  · have hc0 : 0 ≤ cap := by omega
    have hc1 : cap ≤ 1099511627776 := by omega
    have hK0 := newOk hc0 hc1
    clear hc hcw
    go_enter Try.func8, Try.ntmps8
    go_wp2_with fail
    refine hAw.mono ?_
    rintro e w1 ⟨rfl, hb1⟩
    clear hAw
    have hs1 := hb1.size
    go_wp2_with (first
      | (go_at_call 31; (with_reducible refine (New_calls cap _ hc0 hc1).mono ?_); rintro e w2 ⟨g, m, rfl, hA2, hg2, hm2, hb2⟩)
      | (go_at_call 38; (with_reducible refine (refNew_calls cap _ hc0 hc1).mono ?_); rintro e w3 ⟨gr, rfl, hR3, hgr3, hb3⟩))
    have hs2 := hb2.size
    have hA3 := hA2.below hb3
    have hb03 := (hb1.next hb2).next hb3
    have hg : w.heap.size ≤ g := by omega
    have hm : w.heap.size ≤ m := by omega
    have hgr : w.heap.size ≤ gr := by omega
    have hR3' : Rdk w3 gr (newD cap) := hR3
    clear hA2 hR3 hg2 hm2 hgr3 hb1 hb2 hb3
    go_loopw [10] (fun i wr => PlRel s g m gr w i wr) (fun i _ => s.length - (intOf i).toNat)
    case atStart => exact ⟨0, _, rfl, Nat.zero_le _, hK0, hA3, hR3', hb03⟩
    case round =>
      clear hA3 hR3' hb03 hK0
      obtain ⟨k, D, rfl, hk, hK, hA, hR, hb⟩ := hrel
      have hs := hb.size
      have f1 : IntKind.i64.wrap ((k : Int) + 1) = (k : Int) + 1 := IntWalk.i64_in _ (by omega)
      have HAl := Lib.hid (alike_calls hA hR hK)
      by_cases hlt : k < s.length
      · have hd : decide ((k : Int) < (s.length : Int)) = true := decide_eq_true (by omega)
        have hd' : (k : Int) < (s.length : Int) := by omega
        have hdn : decide (k < s.length) = true := decide_eq_true hlt
        have hk0 : (0 : Int) ≤ (k : Int) := by omega
        by_cases hlt3 : k < 300
        · have hd2 : decide ((k : Int) < 300) = true := decide_eq_true (by omega)
          have hd2n : decide (k < 300) = true := decide_eq_true hlt3
          obtain ⟨x, hx⟩ : ∃ x, s[k]? = some x := ⟨s[k], List.getElem?_eq_getElem hlt⟩
          have hxm := List.mem_of_getElem? hx
          have hrw := hr.belowW hb (Nat.le_refl _)
          obtain ⟨bb, off, rfl, hbb, hcell⟩ := hrw.at_ (by omega)
          have hat := oc_at hx
          obtain ⟨⟨hxf, hxc⟩, x1, x2, _, x4⟩ := HOx x hxm
          have hff0 := hxf.below hb
          have q0 : wr.cell? ⟨bb, off + k * 5, none⟩ = some (.int .i64 x.k) := hcell _ _ (hat 0 (by omega))
          have q1 : wr.cell? ⟨bb, off + k * 5 + 1, none⟩ = some (.string x.a) := hcell _ _ (hat 1 (by omega))
          have q2 : wr.cell? ⟨bb, off + k * 5 + 2, none⟩ = some (.string x.b) := hcell _ _ (hat 2 (by omega))
          have q3 : wr.cell? ⟨bb, off + k * 5 + 3, none⟩ = some (.slice x.A x.l.length x.c) := hcell _ _ (hat 3 (by omega))
          have q4 : wr.cell? ⟨bb, off + k * 5 + 4, none⟩ = some (.int .i64 x.n) := hcell _ _ (hat 4 (by omega))
          obtain ⟨D', hD'⟩ : ∃ D', D' = stepD (bits .and .i64 x.k 15) x.a x.b x.l x.n D := ⟨_, rfl⟩
          have hSt := step_calls hA.drew hR.drew hK hb.drew hg hm hgr x hff0.drew hxc x1 x2
          rw [← hD'] at hSt
          have hK' : OkD D' := by rw [hD']; exact hK.step _ _ _ _ (wf_i64 x4).2
          obtain ⟨xk, xa, xb, xl, xA, xc, xn⟩ := x
          simp only at q0 q1 q2 q3 q4 hSt
          have HSt := Lib.hid hSt
          obtain ⟨fr, hfr⟩ : ∃ fr, fr = frD D' := ⟨_, rfl⟩
          obtain ⟨dk, hdk⟩ : ∃ dk, dk = D'.dark := ⟨_, rfl⟩
          have cF : ∀ W, Dsk W g m D' → Calls Try.prog 16 #[.pointer (some ⟨g, 0, none⟩)] W fun e w' => e = .returned (.int .i64 fr) ∧ w' = W := by rw [hfr]; exact fun W h => Free_calls h
          have cD : ∀ W, Dsk W g m D' → Calls Try.prog 35 #[.pointer (some ⟨g, 0, none⟩)] W fun e w' => e = .returned (.bool dk) ∧ w' = W := by rw [hdk]; exact fun W h => Off_calls h
          have cR : ∀ W, Rdk W gr D' → Calls Try.prog 40 #[.pointer (some ⟨gr, 0, none⟩)] W fun e w' => e = .returned (.int .i64 fr) ∧ Rdk w' gr D' ∧ Below W.heap.size W w' := by rw [hfr]; exact fun W h => refFree_calls h ⟨hK'.cap0, hK'.cap1⟩ (by have := hK'.room; have := hK'.cap1; omega)
          have cc : ∀ W, Rdk W gr D' → W.cell? ⟨gr, 4, none⟩ = some (.bool dk) := by
            intro W h
            obtain ⟨fs0, A0, c0, k0, k1, k2, k3, k4, _⟩ := h.row
            rw [hdk]
            exact k4
          have hbx : ∀ W, Below w.heap.size w W → W.cell? ⟨bb, off + k * 5, none⟩ = some (.int .i64 xk) ∧ W.cell? ⟨bb, off + k * 5 + 1, none⟩ = some (.string xa) ∧ W.cell? ⟨bb, off + k * 5 + 2, none⟩ = some (.string xb) ∧ W.cell? ⟨bb, off + k * 5 + 3, none⟩ = some (.slice xA xl.length xc) ∧ W.cell? ⟨bb, off + k * 5 + 4, none⟩ = some (.int .i64 xn) := by
            have hc2 : ∀ j, wr.cell? ⟨bb, j, none⟩ = w.cell? ⟨bb, j, none⟩ := fun j => hb.cell hbb
            intro W hW
            have hc3 : ∀ j, W.cell? ⟨bb, j, none⟩ = w.cell? ⟨bb, j, none⟩ := fun j => hW.cell hbb
            simp only [hc3, ← hc2]
            exact ⟨q0, q1, q2, q3, q4⟩
          clear hx hat hcell hrw hr hSt hfr hdk hD' hA hR hff0 hxf hxc x1 x2 x4
          go_wp2_with fail
          go_region_with ((first
              | (go_at_call 39; (with_reducible refine HSt.out.mono ?_); rintro e w4 ⟨rfl, hA4, hR4, hb4⟩; have hk4 := hbx w4 hb4)
              | (go_at_call 16; (with_reducible refine (cF _ hA4).mono ?_); rintro e z0 ⟨rfl, hz0⟩; obtain rfl := hz0.symm)
              | (go_at_call 40; (with_reducible refine (cR _ hR4).mono ?_); rintro e w5 ⟨rfl, hR5, hb5⟩; have hA5 := hA4.below hb5; have hk5 := cc _ hR5; have hb45 := hb4.next hb5; have hk6 := hbx w5 hb45)
              | (go_at_call 35; (with_reducible refine (cD _ hA5).mono ?_); rintro e z0 ⟨rfl, hz0⟩; obtain rfl := hz0.symm)))
          all_goals
            go_wp2_with fail
            exact ⟨⟨k + 1, D', by go_num, by omega, hK', hA5, hR5, hb45⟩, by simp [intOf]; omega⟩
        · have hd2 : decide ((k : Int) < 300) = false := decide_eq_false (by omega)
          have hd2n : decide (k < 300) = false := decide_eq_false hlt3
          clear hr HOx
          go_wp2_with fail
          refine HAl.out.mono ?_
          rintro e w9 ⟨rfl, hb9⟩
          go_wp2_with fail
          go_ret
          exact ⟨rfl, hb.next hb9⟩
      · have hd : decide ((k : Int) < (s.length : Int)) = false := decide_eq_false (by omega)
        have hdn : decide (k < s.length) = false := decide_eq_false hlt
        clear hr HOx
        go_wp2_with fail
        refine HAl.out.mono ?_
        rintro e w9 ⟨rfl, hb9⟩
        go_wp2_with fail
        go_ret
        exact ⟨rfl, hb.next hb9⟩
end Go.Proofs.Ytogjlfpoedeooaa
