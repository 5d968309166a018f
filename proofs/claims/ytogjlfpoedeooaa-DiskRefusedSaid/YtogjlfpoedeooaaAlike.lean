/- The program's disk and the document's, side by side: what turns one leaves the other; are they alike? Conditions: disks in good order. -/
import Derived.Test.YtogjlfpoedeooaaTw
import Derived.Test.YtogjlfpoedeooaaRefDisk
import Derived.Test.YtogjlfpoedeooaaDisk14
import Derived.Test.YtogjlfpoedeooaaTheirs
import Derived.Test.YtogjlfpoedeooaaFilSame
namespace Go.Proofs.Ytogjlfpoedeooaa
open Go.RowKit Go.Dol
set_option linter.unusedVariables false
section
variable {w w' : World} {g m gr : Nat} {D E : Dk}
/-- What turns the program's disk leaves the document's. -/
theorem Rdk.tw (h : Rdk w gr E) (hD : Dsk w g m D) (ht : Tw w w' g m) : Rdk w' gr E := by
  obtain ⟨fs, A, c, hB, hO, hF, hL⟩ := h
  have h1 : gr ≠ g := by
    rintro rfl
    obtain ⟨al, hB', _⟩ := hD
    unfold Blk at hB hB'
    rw [hB] at hB'
    injection hB' with e
    injection e with _ e
    exact absurd e (by decide)
  have h2 : gr ≠ m := by
    obtain ⟨al, _, hM, _⟩ := hD
    exact hM.blk_ne hB
  exact ⟨fs, A, c, (ht.block gr hB.lt h1 h2).trans hB, own_tw hD ht hO (by decide), hF.tw hD ht, hL⟩
/-- What turns the document's disk leaves the program's. -/
theorem Dsk.ref (h : Dsk w g m D) (hR : Rdk w gr E) (hg : w.grownBy w' (some gr)) : Dsk w' g m D := by
  obtain ⟨fs, A, c, hB', hO, hF', hL⟩ := hR
  obtain ⟨al, hB, hM, hF⟩ := h
  have h1 : g ≠ gr := by
    rintro rfl
    unfold Blk at hB hB'
    rw [hB] at hB'
    injection hB' with e
    injection e with _ e
    exact absurd e (by decide)
  refine ⟨al, hB.grown hg (fun e => h1 (by injection e)), hM.grown hg (fun e => hM.blk_ne hB' (by injection e with e; exact e.symm)), hF.keep hg (Other.blk hB' (by decide) (Nat.zero_le _))⟩
set_option maxRecDepth 100000 in
set_option maxHeartbeats 8000000 in
theorem alike_callsL (hA : Dsk w g m D) (hR : Rdk w gr D) (hK : OkL D) : Calls Try.prog 30 #[.pointer (some ⟨g, 0, none⟩), .pointer (some ⟨gr, 0, none⟩)] w fun e w' => e = .returned (.bool true) ∧ Below w.heap.size w w' := by
  have hlen := hK.len
  obtain ⟨fr, hfr⟩ : ∃ fr, fr = frD D := ⟨_, rfl⟩
  obtain ⟨od, hod⟩ : ∃ od, od = opsD D.done := ⟨_, rfl⟩
  obtain ⟨dk, hdk⟩ : ∃ dk, dk = D.dark := ⟨_, rfl⟩
  have cF : ∀ W, Dsk W g m D → Calls Try.prog 16 #[.pointer (some ⟨g, 0, none⟩)] W fun e w' => e = .returned (.int .i64 fr) ∧ w' = W := by rw [hfr]; exact fun W h => Free_calls h
  have cO : ∀ W, Dsk W g m D → Calls Try.prog 21 #[.pointer (some ⟨g, 0, none⟩)] W fun e w' => e = .returned (.int .i64 od) ∧ w' = W := by rw [hod]; exact fun W h => Ops_calls h
  have cD : ∀ W, Dsk W g m D → Calls Try.prog 35 #[.pointer (some ⟨g, 0, none⟩)] W fun e w' => e = .returned (.bool dk) ∧ w' = W := by rw [hdk]; exact fun W h => Off_calls h
  have cR : ∀ W, Rdk W gr D → Calls Try.prog 40 #[.pointer (some ⟨gr, 0, none⟩)] W fun e w' => e = .returned (.int .i64 fr) ∧ Rdk w' gr D ∧ Below W.heap.size W w' := by rw [hfr]; exact fun W h => refFree_callsL h ⟨hK.cap0, hK.cap1⟩ (by omega)
  have cc : ∀ W, Rdk W gr D → W.cell? ⟨gr, 2, none⟩ = some (.int .i64 od) ∧ W.cell? ⟨gr, 4, none⟩ = some (.bool dk) := by
    intro W h
    obtain ⟨fs0, A0, c0, k0, k1, k2, k3, k4, _⟩ := h.row
    exact ⟨by rw [hod]; exact k2, by rw [hdk]; exact k4⟩
  have cL : ∀ (gs : List FilA), Hid (gs.map FilA.f = D.l) → gs.length ≤ 3518437208880 := by
    intro gs h
    have h1 := congrArg List.length h.out
    rw [List.length_map] at h1
    omega
  clear hfr hod hdk
  have hA0 := hA.drew
  have hR0 := hR.drew
  have hk0 := cc _ hR0
  go_enter Try.func30, Try.ntmps30
  go_wp2_with fail
  go_region_held3 (fun w' => w'.cell? ⟨gr, 2, none⟩ = some (.int .i64 od) ∧ w'.cell? ⟨gr, 4, none⟩ = some (.bool dk)) (first | go_keep | assumption)
    (first
      | (go_at_call 16; (with_reducible refine (cF _ hA0).mono ?_); rintro e z0 ⟨rfl, hz0⟩; obtain rfl := hz0.symm)
      | (go_at_call 40; (with_reducible refine (cR _ hR0).mono ?_); rintro e z1 ⟨rfl, hR1, hb1⟩; have hA1 := hA0.below hb1; have hk1 := cc _ hR1)
      | (go_at_call 21; (with_reducible refine (cO _ hA1).mono ?_); rintro e z0 ⟨rfl, hz0⟩; obtain rfl := hz0.symm)
      | (go_at_call 35; (with_reducible refine (cD _ hA1).mono ?_); rintro e z0 ⟨rfl, hz0⟩; obtain rfl := hz0.symm)
      | (go_at_call 24; (with_reducible refine (Dump_callsL hA1 hK).mono ?_); rintro e z2 ⟨gs, A1, c1, hgs, rfl, ho2, hF2, hb2⟩; have hR2 := hR1.below hb2; have hk2 := cc _ hR2; have hgl := cL gs hgs)
      | (go_at_call 36; (with_reducible refine (Theirs_calls A1 gs c1 z2 (Rd.of_own ho2) (by omega)).mono ?_); rintro e z3 ⟨ys, A2, c2, hys, rfl, ho3, hb3⟩; have hR3 := hR2.below hb3; have hk3 := cc _ hR3; have hF3 := hF2.below hb3)
      | (go_at_call 59; (with_reducible refine (refDump_callsL hR3 hK).mono ?_); rintro e z4 ⟨hs, A3, c3, hhs, rfl, ho4, hF4, hb4⟩; have hR4 := hR3.below hb4; have hk4 := cc _ hR4; have hhl := cL hs hhs; have hyl : ys.length ≤ 3518437208880 := (by rw [hys.out]; exact hgl); have hF5 : Fls8 z4 0 ys := (by rw [hys.out]; exact hF3.below hb4); have hSM : Hid (ys.map FilA.f = hs.map FilA.f) := (by unfold Hid; rw [hys.out, hgs.out, hhs.out]))
      | (go_at_call 25; (with_reducible refine (SameFiles_calls A2 ys c2 A3 hs c3 z4 _ _ _ _ (Rd.of_own (own_belowW ho3 hb4)) (Rd.of_own ho4) hF5 hF4 (by omega) (by omega)).mono ?_); rintro e z5 ⟨u, nq, rfl, hu, hz5⟩; obtain rfl : u = true := hu.2 hSM.out; have hb5 : Below z4.heap.size z4 z5 := (by rw [hz5]; exact (Below.refl _ _).drewN' nq); have hk5 := cc _ (hR4.below hb5); clear hu hz5))
  go_wp2_with fail
  go_ret
  exact ⟨rfl, (((((Below.refl _ _).drew).next hb1).next hb2).next hb3).next (hb4.next hb5)⟩
theorem alike_calls (hA : Dsk w g m D) (hR : Rdk w gr D) (hK : OkD D) : Calls Try.prog 30 #[.pointer (some ⟨g, 0, none⟩), .pointer (some ⟨gr, 0, none⟩)] w fun e w' => e = .returned (.bool true) ∧ Below w.heap.size w w' := alike_callsL hA hR hK.toL
end
end Go.Proofs.Ytogjlfpoedeooaa
