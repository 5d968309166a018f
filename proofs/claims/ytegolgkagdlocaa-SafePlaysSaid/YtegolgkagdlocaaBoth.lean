/- The program's disk and the document's, side by side: what turns one leaves the other. Conditions: none beyond what each law names. -/
import Derived.Test.YtegolgkagdlocaaTw
import Derived.Test.YtegolgkagdlocaaRefDisk
namespace Go.Proofs.Ytegolgkagdlocaa
open Go.RowKit Go.Dol
set_option linter.unusedVariables false
section
variable {w w' : World} {g m gr : Nat} {D E : Dk}
/-- What turns the program's disk leaves the document's. -/
theorem Rdk.tw (h : Rdk w gr E) (hD : Dsk w g m D) (ht : Tw w w' g m) : Rdk w' gr E := by
  obtain ⟨fs, A, c, hB, hO, hF, hL⟩ := h
  have h1 : gr ≠ g := by
    rintro rfl
    obtain ⟨al, hB', _⟩ := hD
    unfold Blk at hB hB'
    rw [hB] at hB'
    injection hB' with e
    injection e with _ e
    exact absurd e (by decide)
  have h2 : gr ≠ m := by
    obtain ⟨al, _, hM, _⟩ := hD
    exact hM.blk_ne hB
  exact ⟨fs, A, c, (ht.block gr hB.lt h1 h2).trans hB, own_tw hD ht hO (by decide), hF.tw hD ht, hL⟩
/-- What turns the document's disk leaves the program's. -/
theorem Dsk.ref (h : Dsk w g m D) (hR : Rdk w gr E) (hg : w.grownBy w' (some gr)) : Dsk w' g m D := by
  obtain ⟨fs, A, c, hB', hO, hF', hL⟩ := hR
  obtain ⟨al, hB, hM, hF⟩ := h
  have h1 : g ≠ gr := by
    rintro rfl
    unfold Blk at hB hB'
    rw [hB] at hB'
    injection hB' with e
    injection e with _ e
    exact absurd e (by decide)
  refine ⟨al, hB.grown hg (fun e => h1 (by injection e)), hM.grown hg (fun e => hM.blk_ne hB' (by injection e with e; exact e.symm)), hF.keep hg (Other.blk hB' (by decide) (Nat.zero_le _))⟩
end
end Go.Proofs.Ytegolgkagdlocaa
