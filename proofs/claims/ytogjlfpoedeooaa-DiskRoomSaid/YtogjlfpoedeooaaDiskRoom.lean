/- The walk of the law DiskRoom. Conditions: at most 2^47 commands. -/
import Derived.Test.YtogjlfpoedeooaaPlayed
namespace Go.Proofs.Ytogjlfpoedeooaa
open Go.RowKit Go.Dol
set_option linter.unusedVariables false
/-- The rounds: what the first k files cost. -/
def RoRel (gs : List FilA) (w : World) (n i : Value) (wr : World) : Prop :=
  ∃ (k q : Nat), n = .int .i64 (costs ((gs.map FilA.f).take k)) ∧ i = .int .i64 k ∧ k ≤ gs.length ∧ Hid (wr = w.drewN q)
set_option maxRecDepth 100000 in
set_option maxHeartbeats 8000000 in
theorem diskRoom_walk (cap : Int) (As : Option Addr) (s : List OpA) (cs : Nat) (w : World) (hcw : (Lit.int .i64 cap).wf = true) (hr : Rd w w.heap.size 5 As s.length (oc s)) (HOx : Ops8 w w.heap.size s) (hsl : s.length ≤ 140737488355328) :
    Calls Try.prog 11 #[.int .i64 cap, .slice As s.length cs] w fun e w' => e = .returned (.bool true) ∧ Below w.heap.size w w' := by
  clear hcw
  have hAw := awake4_calls w
  obtain ⟨cap', hcap⟩ : ∃ c, bits .and .i64 cap 1048575 = c := ⟨_, rfl⟩
  have HCap := Lib.hid hcap
  go_enter Try.func11, Try.ntmps11
  go_wp2_with fail
  refine hAw.mono ?_
  rintro e w1 ⟨rfl, hb1⟩
  clear hAw
  have HPl := Lib.hid (played_calls cap cap' hcap As s cs w1 ((hr.belowW hb1 (Nat.le_refl _)).more hb1.size) (fun x hx => ⟨⟨((HOx.below hb1) x hx).1.1.more hb1.size, (HOx x hx).1.2⟩, (HOx x hx).2⟩) hsl)
  go_wp2_with fail
  refine HPl.out.mono ?_
  rintro e w2 ⟨g, m, D, rfl, hK, hDc, hA2, _, _, hb2⟩
  have hb02 := hb1.next hb2
  have HDu := Lib.hid (Dump_calls hA2 hK)
  go_wp2_with fail
  refine HDu.out.mono ?_
  rintro e w3 ⟨gs, A3, c3, hgs, rfl, ho3, hF3, hb3⟩
  have hb03 := hb02.next hb3
  have hA3 := hA2.below hb3
  have hgl : gs.length ≤ 68719476736 := by
    have h1 := congrArg List.length hgs.out
    rw [List.length_map] at h1
    have := hK.lenD
    omega
  have hr3 := Rd.of_own ho3
  have hco : costs (gs.map FilA.f) ≤ 1099511627776 := by rw [hgs.out]; have := hK.room; have := hK.cap1; omega
  go_wp2_with fail
  go_loopw [7, 9] (fun n i wr => RoRel gs w3 n i wr) (fun _ i _ => gs.length - (intOf i).toNat)
  case atStart => exact ⟨0, 0, rfl, rfl, Nat.zero_le _, rfl⟩
  case round =>
    obtain ⟨k, q, rfl, rfl, hk, hwr⟩ := hrel
    have hrr : Rd wr w3.heap.size 2 A3 gs.length (fc gs) := by rw [hwr.out]; exact hr3.drewN q
    have hAr : Dsk wr g m D := by rw [hwr.out]; exact hA3.drewN q
    have hbr : Below w.heap.size w wr := by rw [hwr.out]; exact hb03.drewN' q
    clear hr3 hr HOx
    by_cases h1 : k < gs.length
    · have d1 : decide ((k : Int) < (gs.length : Int)) = true := decide_eq_true (by omega)
      have d1' : (k : Int) < (gs.length : Int) := by omega
      have hk0 : (0 : Int) ≤ (k : Int) := by omega
      obtain ⟨x, hx⟩ : ∃ x, gs[k]? = some x := ⟨gs[k], List.getElem?_eq_getElem h1⟩
      have hx1 : (gs.map FilA.f)[k]? = some (x.n, x.b) := by rw [List.getElem?_map, hx]; rfl
      obtain ⟨x1, x2⟩ := fc_get hx
      obtain ⟨bb, off, rfl, hbb, hcell⟩ := hrr.at_ (by omega)
      have q0 : wr.cell? ⟨bb, off + k * 2, none⟩ = _ := hcell _ _ x1
      have q1 : wr.cell? ⟨bb, off + k * 2 + 1, none⟩ = _ := hcell _ _ x2
      have hcs := costs_take_succ hx1
      have hs2 := costs_take (gs.map FilA.f) (k + 1)
      have hs0 := costs_nonneg ((gs.map FilA.f).take k)
      obtain ⟨xn, xb, xA, xc⟩ := x
      simp only at q0 q1 hx1 hcs
      obtain ⟨v0, hv0⟩ : ∃ v, v = costs ((gs.map FilA.f).take k) := ⟨_, rfl⟩
      rw [← hv0] at hcs hs0 ⊢
      have g1 : IntKind.i64.wrap (v0 + 16) = v0 + 16 := IntWalk.i64_in _ (by omega)
      have g2 : IntKind.i64.wrap (v0 + 16 + (xn.size : Int)) = v0 + 16 + (xn.size : Int) := IntWalk.i64_in _ (by omega)
      have g3 : IntKind.i64.wrap (v0 + 16 + (xn.size : Int) + (xb.length : Int)) = v0 + 16 + (xn.size : Int) + (xb.length : Int) := IntWalk.i64_in _ (by omega)
      have HCS : Hid (v0 + 16 + (xn.size : Int) + (xb.length : Int) = costs ((gs.map FilA.f).take (k + 1))) := by unfold Hid; omega
      have f2 : IntKind.i64.wrap ((k : Int) + 1) = (k : Int) + 1 := IntWalk.i64_in _ (by omega)
      clear x1 x2 hx hx1 hcell hcs hs2 hs0 hv0
      go_wp2_with fail
      go_quiet (fail)
      go_wp2_with fail
      refine ⟨⟨k + 1, q + nq, by rw [HCS.out], by go_num, by omega, by unfold Hid; rw [hwr.out, World.drewN_drewN]⟩, by simp [intOf]; omega⟩
    · have d1 : decide ((k : Int) < (gs.length : Int)) = false := decide_eq_false (by omega)
      have d1n : decide (k < gs.length) = false := decide_eq_false h1
      have hall : costs ((gs.map FilA.f).take k) = costs D.l := by rw [List.take_of_length_le (by rw [List.length_map]; omega), hgs.out]
      obtain ⟨v0, hv0⟩ : ∃ v, v = costs D.l := ⟨_, rfl⟩
      rw [hall, ← hv0]
      obtain ⟨fr, hfr⟩ : ∃ fr, fr = frD D := ⟨_, rfl⟩
      have hF := Free_calls hAr
      rw [← hfr] at hF
      have HF := Lib.hid hF
      have hfe := hK.free
      have hrm := hK.room
      have hc1 := hK.cap1
      have hce := hDc.out
      have hcn := costs_nonneg D.l
      have d2 : decide (fr ≥ 0) = true := decide_eq_true (by omega)
      have d2' : decide (0 ≤ fr) = true := decide_eq_true (by omega)
      have g1 : IntKind.i64.wrap (fr + v0) = cap' := by rw [IntWalk.i64_in _ (by omega)]; omega
      have g4 : (fr + v0 == cap') = true := by rw [beq_iff_eq]; omega
      clear hall hv0 hfr hF hfe hrm hce hcn hc1
      go_wp2_with ((go_at_call 16; (with_reducible refine HF.out.mono ?_); rintro e z0 ⟨rfl, hz0⟩; obtain rfl := hz0.symm))
      go_ret
      exact ⟨rfl, hbr⟩
end Go.Proofs.Ytogjlfpoedeooaa
