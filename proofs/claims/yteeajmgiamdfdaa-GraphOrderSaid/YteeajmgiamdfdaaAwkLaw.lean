/- The document's example of the layer 'graph', in plain Lean; a search that runs. No program is in sight. Conditions: none. -/
import Derived.Test.YteeajmgiamdfdaaBasLaw
namespace Go.Dol
open Go.RowKit
set_option linter.unusedVariables false
/-- A search that runs: at most so many rounds. -/
def runS (l : List Nd) : Nat → List ByteArray → List ByteArray → Option (List ByteArray)
  | _, met, [] => some met
  | 0, _, _ :: _ => none
  | n + 1, met, x :: td => match parF l x with
    | none => runS l n met td
    | some p => if x ∈ met then runS l n met td else runS l n (met ++ [x]) (td ++ p)
theorem runS_ok {l : List Nd} {fr : List ByteArray} : ∀ (n : Nat) (met td m : List ByteArray), Srch l fr met td → runS l n met td = some m → Srch l fr m [] := by
  intro n
  induction n with
  | zero =>
    intro met td m h hr
    cases td with
    | nil => injection hr with hr; rw [← hr]; exact h
    | cons x td => cases hr
  | succ n ih =>
    intro met td m h hr
    cases td with
    | nil => injection hr with hr; rw [← hr]; exact h
    | cons x td =>
      unfold runS at hr
      cases hp : parF l x with
      | none =>
        rw [hp] at hr
        exact ih _ _ _ (h.pass (x := x) (fun y => by simp) (.inl hp)) hr
      | some p =>
        rw [hp] at hr
        simp only at hr
        split at hr
        · rename_i hx
          exact ih _ _ _ (h.pass (x := x) (fun y => by simp) (.inr hx)) hr
        · refine ih _ _ _ (h.meet (x := x) hp (fun y => by simp [or_comm]) (fun y hy => ?_) (fun y hy => ?_) (fun y hy => by simp [hy]) (by simp)) hr
          · simp at hy ⊢
            rcases hy with h | h
            · exact .inl h
            · exact .inr (.inl h)
          · simp at hy ⊢
            rcases hy with h | h
            · exact .inl (.inr h)
            · exact .inr h
theorem runS_met {l : List Nd} {fr m : List ByteArray} (n : Nat) (h : runS l n [] fr = some m) (x : ByteArray) : x ∈ m ↔ Rch l fr x := (runS_ok n [] fr m (Srch.start l fr) h).done x
def tA : ByteArray := ⟨#[97]⟩
def tB : ByteArray := ⟨#[98]⟩
def tC : ByteArray := ⟨#[99]⟩
def tD : ByteArray := ⟨#[100]⟩
def tE : ByteArray := ⟨#[101]⟩
def awkL : List Nd := [(tA, []), (tB, [tA]), (tC, [tA]), (tD, [tB, tC]), (tE, [tC, tB])]
theorem reA (x : ByteArray) : x ∈ [tA] ↔ Rch awkL [tA] x := runS_met 20 (by decide +kernel) x
theorem reB (x : ByteArray) : x ∈ [tB, tA] ↔ Rch awkL [tB] x := runS_met 20 (by decide +kernel) x
theorem reC (x : ByteArray) : x ∈ [tC, tA] ↔ Rch awkL [tC] x := runS_met 20 (by decide +kernel) x
theorem reD (x : ByteArray) : x ∈ [tD, tB, tC, tA] ↔ Rch awkL [tD] x := runS_met 20 (by decide +kernel) x
theorem reE (x : ByteArray) : x ∈ [tE, tC, tB, tA] ↔ Rch awkL [tE] x := runS_met 20 (by decide +kernel) x
theorem strict_dec {l : List ByteArray} (h : l.Pairwise fun a b => sLt a b = true) : Strict l := h
theorem awk_bases {L : List ByteArray} (hs : Strict L) (hm : ∀ x, x ∈ L ↔ BaseP awkL tD tE x) : L = [tB, tC] := by
  have n1 : tA ≠ tB := by decide +kernel
  have n2 : tA ≠ tC := by decide +kernel
  have n3 : tB ≠ tC := by decide +kernel
  have n4 : tA ≠ tD := by decide +kernel
  have n5 : tB ≠ tD := by decide +kernel
  have n6 : tC ≠ tD := by decide +kernel
  have n7 : tD ≠ tE := by decide +kernel
  have n8 : tA ≠ tE := by decide +kernel
  have n9 : tB ≠ tE := by decide +kernel
  have n10 : tC ≠ tE := by decide +kernel
  have cm : ∀ x, Rch awkL [tD] x ∧ Rch awkL [tE] x ↔ x = tB ∨ x = tC ∨ x = tA := fun x => by
    rw [← reD, ← reE]
    simp only [List.mem_cons, List.not_mem_nil, or_false]
    constructor
    · rintro ⟨h | h | h | h, k⟩
      · rw [h] at k
        rcases k with k | k | k | k
        · exact absurd k n7
        · exact absurd k.symm n6
        · exact absurd k.symm n5
        · exact absurd k.symm n4
      · exact .inl h
      · exact .inr (.inl h)
      · exact .inr (.inr h)
    · rintro (h | h | h)
      · exact ⟨.inr (.inl h), .inr (.inr (.inl h))⟩
      · exact ⟨.inr (.inr (.inl h)), .inr (.inl h)⟩
      · exact ⟨.inr (.inr (.inr h)), .inr (.inr (.inr h))⟩
  refine hs.same (by unfold Strict; decide +kernel) fun x => (hm x).trans ?_
  unfold BaseP
  rw [cm]
  simp only [List.mem_cons, List.not_mem_nil, or_false]
  constructor
  · rintro ⟨h | h | h, k⟩
    · exact .inl h
    · exact .inr h
    · exfalso
      refine k ⟨tB, (cm tB).2 (.inl rfl), ?_, ?_⟩
      · rw [h, ← reB]; simp
      · rw [h, ← reA]; simp [n1.symm]
  · intro h
    have hx : x = tB ∨ x = tC ∨ x = tA := by rcases h with h | h; exact .inl h; exact .inr (.inl h)
    refine ⟨hx, fun ⟨o, ho, h1, h2⟩ => ?_⟩
    rw [cm] at ho
    rcases h with rfl | rfl <;> rcases ho with rfl | rfl | rfl
    · exact h2 h1
    · rw [← reC] at h1; simp [n3, n1.symm] at h1
    · rw [← reA] at h1; simp [n1.symm] at h1
    · rw [← reB] at h1; simp [n3.symm, n2.symm] at h1
    · exact h2 h1
    · rw [← reA] at h1; simp [n2.symm] at h1
theorem awk_order {L : List ByteArray} (hs : Strict L) (hm : ∀ x, x ∈ L ↔ Rch awkL [tD] x) : orderO awkL L = [tA, tB, tC, tD] := by
  have e : L = [tA, tB, tC, tD] := hs.same (by unfold Strict; decide +kernel) fun x => by
    rw [hm, ← reD]
    simp only [List.mem_cons, List.not_mem_nil, or_false]
    constructor
    · rintro (h | h | h | h)
      · exact .inr (.inr (.inr h))
      · exact .inr (.inl h)
      · exact .inr (.inr (.inl h))
      · exact .inl h
    · rintro (h | h | h | h)
      · exact .inr (.inr (.inr h))
      · exact .inr (.inl h)
      · exact .inr (.inr (.inl h))
      · exact .inl h
  rw [e]
  decide +kernel
theorem awk_da : Rch awkL [tD] tA := (reD tA).1 (by simp)
theorem awk_ad : ¬ Rch awkL [tA] tD := fun h => by
  have := (reA tD).2 h
  revert this
  decide +kernel
end Go.Dol
