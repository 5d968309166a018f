/- The walk of the laws' 'played': a disk that a script was done to. Conditions: at most 2^47 commands. -/
import Derived.Test.YtogjlfpoedeooaaStep
import Derived.Test.YtogjlfpoedeooaaDiskAwake
namespace Go.Dol
open Go.RowKit
set_option linter.unusedVariables false
theorem spend_cap (D : Dk) (l : List Fil) : (spendD D l).2.cap = D.cap := by unfold spendD; split <;> rfl
theorem room_cap (D : Dk) (k : Int) (l : List Fil) : (roomD D k l).2.cap = D.cap := by
  unfold roomD
  split
  · rfl
  · exact spend_cap _ _
theorem app_cap (D : Dk) (n : ByteArray) (b : List UInt8) : (appD D n b).2.cap = D.cap := by
  unfold appD
  split
  · rfl
  · split
    · rfl
    · exact room_cap _ _ _
theorem rem_cap (D : Dk) (n : ByteArray) : (remD D n).2.cap = D.cap := by
  unfold remD
  split
  · rfl
  · exact spend_cap _ _
theorem sync_cap (D : Dk) (n : ByteArray) : (syncD D n).2.cap = D.cap := by
  unfold syncD
  split
  · rfl
  · exact spend_cap _ _
theorem ren_cap (D : Dk) (a b : ByteArray) : (renD D a b).2.cap = D.cap := by
  unfold renD
  split
  · rfl
  · split
    · rfl
    · exact room_cap _ _ _
theorem cut_cap (D : Dk) (k : Int) : (cutD D k).2.cap = D.cap := by
  unfold cutD
  split
  · rfl
  · simp only
    split <;> rfl
theorem step_cap (q : Int) (a b : ByteArray) (l : List UInt8) (n : Int) (D : Dk) : (stepD q a b l n D).cap = D.cap := by
  unfold stepD
  split
  · exact rem_cap _ _
  split
  · exact ren_cap _ _ _
  split
  · exact sync_cap _ _
  split
  · rfl
  split
  · exact cut_cap _ _
  split
  · rfl
  · exact app_cap _ _ _
end Go.Dol
namespace Go.Proofs.Ytogjlfpoedeooaa
open Go.RowKit Go.Dol
set_option linter.unusedVariables false
theorem newOk {cap : Int} (h0 : 0 ≤ cap) (h1 : cap ≤ 1099511627776) : OkD (newD cap) := ⟨List.Pairwise.nil, h0, h1, h0, by show (-1 : Int) ≤ -1; omega, by show (-1 : Int) ≤ _; omega, fun f hf => (List.not_mem_nil hf).elim⟩
/-- The rounds of 'played'. -/
def PyRel (s : List OpA) (cap : Int) (g m gr : Nat) (w : World) (i : Value) (wr : World) : Prop :=
  ∃ (k : Nat) (D : Dk), i = .int .i64 k ∧ k ≤ s.length ∧ OkD D ∧ Hid (D.cap = cap) ∧ Dsk wr g m D ∧ Rdk wr gr D ∧ Below w.heap.size w wr
/-- What 'played' hands back. -/
def RetPlayed (w : World) (cap : Int) (e : Ending) (w' : World) : Prop := ∃ (g m : Nat) (D : Dk), e = .returned (.pointer (some ⟨g, 0, none⟩)) ∧ OkD D ∧ Hid (D.cap = cap) ∧ Dsk w' g m D ∧ w.heap.size ≤ g ∧ w.heap.size ≤ m ∧ Below w.heap.size w w'
set_option maxRecDepth 100000 in
set_option maxHeartbeats 16000000 in
theorem played_calls (cap cap' : Int) (hcap : bits .and .i64 cap 1048575 = cap') (As : Option Addr) (s : List OpA) (cs : Nat) (w : World) (hr : Rd w w.heap.size 5 As s.length (oc s)) (HOx : Ops8 w w.heap.size s) (hsl : s.length ≤ 140737488355328) :
    Calls Try.prog 42 #[.int .i64 cap, .slice As s.length cs] w (RetPlayed w cap') := by
  have hm1 := mask_rng cap 20 1048575 rfl (by omega)
  rw [hcap] at hm1
  have hc0 : 0 ≤ cap' := by omega
  have hc1 : cap' ≤ 1099511627776 := by omega
  have hK0 := newOk hc0 hc1
  clear hm1
  go_enter Try.func42, Try.ntmps42
  go_wp2_with (first
    | (go_at_call 31; (with_reducible refine (New_calls cap' _ hc0 hc1).mono ?_); rintro e w2 ⟨g, m, rfl, hA2, hg2, hm2, hb2⟩)
    | (go_at_call 38; (with_reducible refine (refNew_calls cap' _ hc0 hc1).mono ?_); rintro e w3 ⟨gr, rfl, hR3, hgr3, hb3⟩))
  have hs2 := hb2.size
  have hA3 := hA2.below hb3
  have hb03 := hb2.next hb3
  have hg : w.heap.size ≤ g := by omega
  have hm : w.heap.size ≤ m := by omega
  have hgr : w.heap.size ≤ gr := by omega
  have hR3' : Rdk w3 gr (newD cap') := hR3
  clear hA2 hR3 hg2 hm2 hgr3 hb2 hb3 hcap
  go_loopw [9] (fun i wr => PyRel s cap' g m gr w i wr) (fun i _ => s.length - (intOf i).toNat)
  case atStart => exact ⟨0, _, rfl, Nat.zero_le _, hK0, rfl, hA3, hR3', hb03⟩
  case round =>
    clear hA3 hR3' hb03 hK0
    obtain ⟨k, D, rfl, hk, hK, hDc, hA, hR, hb⟩ := hrel
    have hs := hb.size
    have f1 : IntKind.i64.wrap ((k : Int) + 1) = (k : Int) + 1 := IntWalk.i64_in _ (by omega)
    by_cases hlt : k < s.length
    · have hd : decide ((k : Int) < (s.length : Int)) = true := decide_eq_true (by omega)
      have hd' : (k : Int) < (s.length : Int) := by omega
      have hdn : decide (k < s.length) = true := decide_eq_true hlt
      have hk0 : (0 : Int) ≤ (k : Int) := by omega
      by_cases hlt3 : k < 100
      · have hd2 : decide ((k : Int) < 100) = true := decide_eq_true (by omega)
        have hd2n : decide (k < 100) = true := decide_eq_true hlt3
        obtain ⟨x, hx⟩ : ∃ x, s[k]? = some x := ⟨s[k], List.getElem?_eq_getElem hlt⟩
        have hxm := List.mem_of_getElem? hx
        have hrw := hr.belowW hb (Nat.le_refl _)
        obtain ⟨bb, off, rfl, hbb, hcell⟩ := hrw.at_ (by omega)
        have hat := oc_at hx
        obtain ⟨⟨hxf, hxc⟩, x1, x2, _, x4⟩ := HOx x hxm
        have hff0 := hxf.below hb
        have q0 : wr.cell? ⟨bb, off + k * 5, none⟩ = some (.int .i64 x.k) := hcell _ _ (hat 0 (by omega))
        have q1 : wr.cell? ⟨bb, off + k * 5 + 1, none⟩ = some (.string x.a) := hcell _ _ (hat 1 (by omega))
        have q2 : wr.cell? ⟨bb, off + k * 5 + 2, none⟩ = some (.string x.b) := hcell _ _ (hat 2 (by omega))
        have q3 : wr.cell? ⟨bb, off + k * 5 + 3, none⟩ = some (.slice x.A x.l.length x.c) := hcell _ _ (hat 3 (by omega))
        have q4 : wr.cell? ⟨bb, off + k * 5 + 4, none⟩ = some (.int .i64 x.n) := hcell _ _ (hat 4 (by omega))
        obtain ⟨D', hD'⟩ : ∃ D', D' = stepD (bits .and .i64 x.k 15) x.a x.b x.l x.n D := ⟨_, rfl⟩
        have hSt := step_calls hA hR hK hb hg hm hgr x hff0 hxc x1 x2
        rw [← hD'] at hSt
        have hK' : OkD D' := by rw [hD']; exact hK.step _ _ _ _ (wf_i64 x4).2
        have hDc' : Hid (D'.cap = cap') := by unfold Hid; rw [hD', step_cap]; exact hDc.out
        obtain ⟨xk, xa, xb, xl, xA, xc, xn⟩ := x
        simp only at q0 q1 q2 q3 q4 hSt
        have HSt := Lib.hid hSt
        clear hx hat hcell hrw hr hSt hD' hA hR hff0 hxf hxc x1 x2 x4 hDc
        go_wp2_with fail
        refine HSt.out.mono ?_
        rintro e w4 ⟨rfl, hA4, hR4, hb4⟩
        go_wp2_with fail
        exact ⟨⟨k + 1, D', by go_num, by omega, hK', hDc', hA4, hR4, hb4⟩, by simp [intOf]; omega⟩
      · have hd2 : decide ((k : Int) < 100) = false := decide_eq_false (by omega)
        have hd2n : decide (k < 100) = false := decide_eq_false hlt3
        clear hr HOx
        go_wp2_with fail
        go_ret
        exact ⟨g, m, D, rfl, hK, hDc, hA, hg, hm, hb⟩
    · have hd : decide ((k : Int) < (s.length : Int)) = false := decide_eq_false (by omega)
      have hdn : decide (k < s.length) = false := decide_eq_false hlt
      clear hr HOx
      go_wp2_with fail
      go_ret
      exact ⟨g, m, D, rfl, hK, hDc, hA, hg, hm, hb⟩
end Go.Proofs.Ytogjlfpoedeooaa
