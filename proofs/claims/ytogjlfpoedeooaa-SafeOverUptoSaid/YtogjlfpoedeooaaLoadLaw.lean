/- What a loading that goes through leaves: a calm disk. No program is in sight. Conditions: what is loaded costs at most 2^47. -/
import Derived.Test.YtogjlfpoedeooaaSafeLaw
import Derived.Test.YtogjlfpoedeooaaFil
namespace Go.Dol
open Go.RowKit
set_option linter.unusedVariables false
theorem loadD_ways {cap : Int} {l : List Fil} (hs : costs l ≤ 140737488355328) : (∃ k, loadD cap l = (none, k)) ∨ ∃ D, loadD cap l = (some D, 0) ∧ CalmD D ∧ D.cap = cap ∧ D.done = 0 := by
  unfold loadD
  by_cases hc : cap < 0 ∨ 1099511627776 < cap
  · rw [if_pos hc]
    exact .inl ⟨_, rfl⟩
  · rw [if_neg hc]
    cases hm : loadL [] l with
    | none => exact .inl ⟨_, rfl⟩
    | some m =>
      simp only
      by_cases hf : frD ⟨cap, m, 0, -1, false⟩ < 0
      · rw [if_pos hf]
        exact .inl ⟨_, rfl⟩
      · rw [if_neg hf]
        have hcs := loadL_costs hm List.Pairwise.nil
        have h0 := costs_nonneg l
        have he : frD ⟨cap, m, 0, -1, false⟩ = cap - costs m := by
          unfold frD
          have hz : costs ([] : List Fil) = 0 := rfl
          refine IntWalk.i64_in _ ?_
          show -9223372036854775808 ≤ cap - costs m ∧ cap - costs m ≤ 9223372036854775807
          omega
        have hz : costs ([] : List Fil) = 0 := rfl
        rw [he] at hf
        exact .inr ⟨_, rfl, ⟨⟨loadL_order hm List.Pairwise.nil, by show 0 ≤ cap; omega, by show cap ≤ _; omega, by show costs m ≤ cap; omega, by show (-1 : Int) ≤ -1; omega, by show (-1 : Int) ≤ _; omega, loadL_names hm (fun f hf => (List.not_mem_nil hf).elim)⟩, rfl, rfl⟩, rfl, rfl⟩
end Go.Dol
