/- The walks of the layer 'safe', its first part: what a save needs; how a name ends. Conditions: lengths below 2^46. -/
import Derived.Test.YtogjlfpoedeooaaDisk11
namespace Go.Dol
theorem last_eq {s : ByteArray} (h : ¬ s.size < 1) : ((s.extract (s.size - 1) s.size).toList == [126]) = decide (s.data.toList.getLast? = some 126) := by
  have hl := str_len s
  obtain ⟨l, hL⟩ : ∃ l, l = s.data.toList := ⟨_, rfl⟩
  have e1 : (s.extract (s.size - 1) s.size).toList = l.drop (s.size - 1) := by
    rw [ByteArray.toList_eq, ByteArray.data_extract, Array.toList_extract, hL]
    simp only [List.extract_eq_take_drop]
    exact List.take_of_length_le (by rw [List.length_drop]; omega)
  rw [← hL] at hl
  rw [e1, ← hL]
  obtain ⟨k, hk⟩ : ∃ k, s.size = k + 1 := ⟨s.size - 1, by omega⟩
  have hkl : k < l.length := by omega
  have e2 : l.drop k = [l[k]] := by
    rw [List.drop_eq_getElem_cons hkl, List.drop_eq_nil_of_le (by omega)]
  have e3 : l.getLast? = some l[k] := by
    rw [List.getLast?_eq_getElem?, show l.length - 1 = k by omega]
    exact List.getElem?_eq_getElem hkl
  rw [hk, Nat.add_sub_cancel, e2, e3]
  by_cases hx : l[k] = 126 <;> simp [hx]
end Go.Dol
namespace Go.Proofs.Ytogjlfpoedeooaa
open Go.RowKit Go.Dol
set_option linter.unusedVariables false
set_option maxRecDepth 100000 in
set_option maxHeartbeats 800000 in
theorem Need_calls (n : ByteArray) (k : Int) (w : World) (hn : n.size ≤ 140737488355328) (hk0 : -4611686018427387904 ≤ k) (hk : k ≤ 4611686018427387904) :
    Calls Try.prog 18 #[.string n, .int .i64 k] w fun e w' => e = .returned (.int .i64 (16 + (n.size + 1) + max k 0)) ∧ w' = w := by
  have f1 : IntKind.i64.wrap (16 + ((n.size : Int) + 1)) = 16 + ((n.size : Int) + 1) := IntWalk.i64_in _ (by omega)
  have f2 : IntKind.i64.wrap (16 + ((n.size : Int) + 1) + max k 0) = 16 + ((n.size : Int) + 1) + max k 0 := IntWalk.i64_in _ (by omega)
  go_enter Try.func18, Try.ntmps18
  go_wp2_with fail
  go_ret
  exact ⟨rfl, rfl⟩
set_option maxRecDepth 100000 in
set_option maxHeartbeats 800000 in
theorem suffix_calls (s : ByteArray) (w : World) (hn : s.size ≤ maxLen) :
    Calls Try.prog 72 #[.string s, .string ⟨#[126]⟩] w fun e w' => e = .returned (.bool (decide (s.data.toList.getLast? = some 126))) ∧ w' = w := by
  by_cases h0 : s.size < 1
  · have d1 : decide ((s.size : Int) ≥ 1) = false := decide_eq_false (by omega)
    have d1' : decide ((1 : Int) ≤ (s.size : Int)) = false := decide_eq_false (by omega)
    go_enter Try.func72, Try.ntmps72
    go_wp2_with fail
    go_ret
    refine ⟨?_, rfl⟩
    have h1 : s.data.toList = [] := List.eq_nil_of_length_eq_zero (by rw [str_len]; omega)
    rw [h1]
    rfl
  · have d1 : decide ((s.size : Int) ≥ 1) = true := decide_eq_true (by omega)
    have d1' : decide ((1 : Int) ≤ (s.size : Int)) = true := decide_eq_true (by omega)
    have f1 : IntKind.i64.wrap ((s.size : Int) - 1) = (s.size : Int) - 1 := IntWalk.i64_in _ (by unfold maxLen at hn; omega)
    go_enter Try.func72, Try.ntmps72
    go_wp2_with fail
    go_ret
    refine ⟨?_, rfl⟩
    rw [last_eq h0]
    rfl
set_option maxRecDepth 100000 in
set_option maxHeartbeats 800000 in
theorem HasSuffix_calls (s : ByteArray) (w : World) (hn : s.size ≤ maxLen) :
    Calls Try.prog 48 #[.string s, .string ⟨#[126]⟩] w fun e w' => e = .returned (.bool (decide (s.data.toList.getLast? = some 126))) ∧ w' = w := by
  have h := suffix_calls s w hn
  generalize decide (s.data.toList.getLast? = some 126) = r at h ⊢
  go_enter Try.func48, Try.ntmps48
  go_wp2_with ((go_at_call 72; refine h.mono ?_; rintro e w' ⟨rfl, rfl⟩))
  go_ret
  exact ⟨rfl, rfl⟩
end Go.Proofs.Ytogjlfpoedeooaa
