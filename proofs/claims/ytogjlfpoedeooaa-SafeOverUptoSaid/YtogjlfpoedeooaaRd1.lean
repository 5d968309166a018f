/- The walks of the document's 'disk', its first part: names, how its disk lies, where a name stands. Conditions: lengths below 2^47. -/
import Derived.Test.YtogjlfpoedeooaaFil
import Derived.Test.YtogjlfpoedeooaaIndex
import Derived.Test.YtogjlfpoedeooaaDisk2
import Derived.Laws.Cover1
import Derived.Deep.QuietTactic
import Derived.BigQuiet
namespace Go.Dol
open Go.RowKit
theorem less_eq (x y : List UInt8) : Op.bytesLess x y = decide (x < y) := by
  induction x generalizing y with
  | nil =>
    cases y with
    | nil => rfl
    | cons b y => simp [Op.bytesLess]
  | cons a x ih =>
    cases y with
    | nil => simp [Op.bytesLess]
    | cons b y =>
      simp only [Op.bytesLess, ih, List.cons_lt_cons_iff]
      by_cases h1 : a < b <;> by_cases h2 : a = b <;> simp [h1, h2]
theorem less_sLt (a b : ByteArray) : Op.bytesLess a.toList b.toList = sLt a b := by
  rw [ByteArray.toList_eq, ByteArray.toList_eq, less_eq]
  rfl
theorem str_eq_b'' {a b : ByteArray} (h : a = b) : (a.toList == b.toList) = true := by rw [h]; exact beq_self_eq_true _
theorem str_ne_b'' {a b : ByteArray} (h : ¬ a = b) : (a.toList == b.toList) = false := by
  refine beq_eq_false_iff_ne.2 fun e => h (ba_ext ?_)
  rw [ByteArray.toList_eq, ByteArray.toList_eq] at e
  exact e
theorem str_getD (s : ByteArray) {k : Nat} (h : k < s.size) : s[k]'h = s.data.toList[k]'(by rw [str_len]; exact h) := rfl
theorem nameB_nought {s : ByteArray} {k : Nat} (h : k < s.data.toList.length) (hc : s.data.toList[k] = 0) : nameB s = false := by
  unfold nameB
  have : s.data.toList.contains 0 = true := by rw [List.contains_iff_mem, ← hc]; exact List.getElem_mem h
  rw [this]
  simp
theorem nameB_rest {s : ByteArray} (h : ∀ (j : Nat) (hj : j < s.data.toList.length), s.data.toList[j] ≠ 0) : nameB s = (decide (1 ≤ s.size) && decide (s.size ≤ 200)) := by
  have h0 : s.data.toList.contains 0 = false := by
    rw [Bool.eq_false_iff]
    intro h1
    rw [List.contains_iff_mem] at h1
    obtain ⟨j, hj, e⟩ := List.getElem_of_mem h1
    exact h j hj e
  unfold nameB
  rw [h0]
  simp
theorem u8_nought {x : UInt8} (h : x ≠ 0) : ((x.toNat : Int) == 0) = false := beq_eq_false_iff_ne.2 fun e => h (UInt8.toNat_inj.1 (by show x.toNat = 0; omega))
end Go.Dol
namespace Go.Proofs.Ytogjlfpoedeooaa
open Go.RowKit Go.Dol
set_option linter.unusedVariables false
def NmRel (s : ByteArray) (w : World) (i : Value) (wr : World) : Prop := w = wr ∧ ∃ k : Nat, i = .int .i64 k ∧ k ≤ s.size ∧ Hid (∀ (j : Nat) (hj : j < s.data.toList.length), j < k → s.data.toList[j] ≠ 0)
set_option maxRecDepth 100000 in
set_option maxHeartbeats 2000000 in
theorem refNamed_calls (s : ByteArray) (w : World) (hs : s.size ≤ maxLen) : Calls Try.prog 56 #[.string s] w fun e w' => e = .returned (.bool (nameB s)) ∧ w' = w := by
  have hsm : s.size ≤ 9223372036854775807 := by unfold maxLen at hs; omega
  obtain ⟨r, hr⟩ : ∃ r, r = nameB s := ⟨_, rfl⟩
  rw [← hr]
  have HR := Lib.hid hr
  clear hr
  go_enter Try.func56, Try.ntmps56
  go_wp2_with fail
  go_loopw [3] (fun i wr => NmRel s w i wr) (fun i _ => s.size - (intOf i).toNat)
  case atStart => exact ⟨rfl, 0, rfl, Nat.zero_le _, Lib.hid (fun j _ h => by omega)⟩
  case round =>
    obtain ⟨rfl, k, rfl, hk, hall⟩ := hrel
    by_cases h1 : k < s.size
    · have f2 : IntKind.i64.wrap ((k : Int) + 1) = (k : Int) + 1 := IntWalk.i64_in _ (by omega)
      have d1 : decide ((k : Int) < (s.size : Int)) = true := decide_eq_true (by omega)
      have d1' : (k : Int) < (s.size : Int) := by omega
      have hk0 : (0 : Int) ≤ (k : Int) := by omega
      have hkl : k < s.data.toList.length := by rw [str_len]; exact h1
      obtain ⟨c, hc⟩ : ∃ c, c = s.data.toList[k] := ⟨_, rfl⟩
      have hsx : ∀ h : k < s.size, (s[k]'h).toNat = c.toNat := fun h => by rw [str_getD s h, hc]
      have HC := Lib.hid hc
      clear hc
      by_cases h2 : c = 0
      · have g2 : ((c.toNat : Int) == 0) = true := by rw [h2]; rfl
        have HF : Hid (r = false) := by unfold Hid; rw [HR.out]; exact nameB_nought hkl (by rw [← HC.out]; exact h2)
        clear h2
        go_wp2_with fail
        go_ret
        rw [HF.out]
        exact ⟨rfl, rfl⟩
      · have g2 := u8_nought h2
        have H2 : Hid (c ≠ 0) := h2
        clear h2
        go_wp2_with fail
        refine ⟨⟨rfl, k + 1, by go_num, by omega, Lib.hid fun j hj hjk => ?_⟩, by simp [intOf]; omega⟩
        by_cases e : j = k
        · subst e
          rw [← HC.out]
          exact H2.out
        · exact hall.out j hj (by omega)
    · have d1 : decide ((k : Int) < (s.size : Int)) = false := decide_eq_false (by omega)
      have d1n : decide (k < s.size) = false := decide_eq_false h1
      have HF : Hid (r = (decide (1 ≤ s.size) && decide (s.size ≤ 200))) := by
        unfold Hid
        rw [HR.out]
        exact nameB_rest fun j hj => hall.out j hj (by rw [str_len] at hj; omega)
      by_cases h3 : 1 ≤ s.size
      · have e1 : decide ((s.size : Int) ≥ 1) = true := decide_eq_true (by omega)
        have e1' : decide ((1 : Int) ≤ (s.size : Int)) = true := decide_eq_true (by omega)
        have n1 : decide (1 ≤ s.size) = true := decide_eq_true h3
        by_cases h4 : s.size ≤ 200
        · have e2 : decide ((s.size : Int) ≤ 200) = true := decide_eq_true (by omega)
          have n2 : decide (s.size ≤ 200) = true := decide_eq_true h4
          have HF2 : Hid (r = true) := by unfold Hid; rw [HF.out, n1, n2]; rfl
          clear h3 h4
          go_wp2_with fail
          go_ret
          rw [HF2.out]
          exact ⟨rfl, rfl⟩
        · have e2 : decide ((s.size : Int) ≤ 200) = false := decide_eq_false (by omega)
          have n2 : decide (s.size ≤ 200) = false := decide_eq_false h4
          have HF2 : Hid (r = false) := by unfold Hid; rw [HF.out, n1, n2]; rfl
          clear h3 h4
          go_wp2_with fail
          go_ret
          rw [HF2.out]
          exact ⟨rfl, rfl⟩
      · have e1 : decide ((s.size : Int) ≥ 1) = false := decide_eq_false (by omega)
        have e1' : decide ((1 : Int) ≤ (s.size : Int)) = false := decide_eq_false (by omega)
        have n1 : decide (1 ≤ s.size) = false := decide_eq_false h3
        have HF2 : Hid (r = false) := by unfold Hid; rw [HF.out, n1]; rfl
        clear h3
        go_wp2_with fail
        go_ret
        rw [HF2.out]
        exact ⟨rfl, rfl⟩
end Go.Proofs.Ytogjlfpoedeooaa
