/- The walks of the layer 'object', its first part: a name's part, an id, who told what. Conditions: none. -/
import Derived.Test.YtcefbhmmijmefaaSumShelf
import Derived.Test.YtcefbhmmijmefaaObjLaw
import Derived.Test.YtcefbhmmijmefaaCodeN
import Derived.Laws.Cover1
import Derived.Deep.QuietTactic
import Derived.BigQuiet
namespace Go.Dol
theorem index_has {l : List UInt8} {c : UInt8} (h : l.contains c = true) : 0 ≤ Lib.indexByte l c := by
  have h1 := Lib.indexByte_ge l c
  rcases (show Lib.indexByte l c < 0 ∨ 0 ≤ Lib.indexByte l c by omega) with h2 | h2
  · have h3 : Lib.indexByte l c = -1 := by omega
    have h4 := Lib.indexByte_none h3
    rw [List.contains_iff_mem] at h
    obtain ⟨i, hi, e⟩ := List.getElem_of_mem h
    exact absurd (by rw [List.getElem?_eq_getElem hi, e]) (h4 i)
  · exact h2
theorem index_hasnt {l : List UInt8} {c : UInt8} (h : l.contains c = false) : Lib.indexByte l c = -1 := by
  have h1 := Lib.indexByte_ge l c
  rcases (show Lib.indexByte l c < 0 ∨ 0 ≤ Lib.indexByte l c by omega) with h2 | h2
  · omega
  · obtain ⟨k, hk⟩ : ∃ k : Nat, Lib.indexByte l c = k := ⟨(Lib.indexByte l c).toNat, by omega⟩
    have h3 := (Lib.indexByte_some hk).1
    have h4 : c ∈ l := by
      obtain ⟨hi, e⟩ := List.getElem?_eq_some_iff.1 h3
      rw [← e]
      exact List.getElem_mem hi
    rw [← List.contains_iff_mem, h] at h4
    cases h4
end Go.Dol
namespace Go.Proofs.Ytcefbhmmijmefaa
open Go.RowKit Go.Dol
set_option linter.unusedVariables false

theorem index_lit (s : ByteArray) (k : Int) (c : UInt8) (hc : k.toNat.toUInt8 = c) (w : World) : Calls Try.prog 56 #[.string s, .int .u8 k] w fun e w' => e = .returned (.int .i64 (Lib.indexByte s.data.toList c)) ∧ w' = w := by
  subst hc
  exact IndexByte_calls s k w

def PartH (s : ByteArray) (r : Bool) : Prop := r = (!s.data.toList.contains 0 && !s.data.toList.contains 47 && decide (1 ≤ s.size) && decide (s.size ≤ 100) && (!(s.toList == [46]) && !(s.toList == [46, 46])))

set_option maxRecDepth 100000 in
set_option maxHeartbeats 800000 in
theorem Part_calls (s : ByteArray) (w : World) : Calls Try.prog 43 #[.string s] w fun e w' => e = .returned (.bool (partB s)) ∧ w = w' := by
  obtain ⟨r, hr⟩ : ∃ r, r = partB s := ⟨_, rfl⟩
  rw [← hr]
  have HR : PartH s r := hr
  clear hr
  by_cases h1 : 1 ≤ s.size
  · have d1 : decide ((1 : Int) ≤ (s.size : Int)) = true := by simp; omega
    have d1' : (1 : Int) ≤ (s.size : Int) := by omega
    by_cases h2 : s.size ≤ 100
    · have d2 : decide ((s.size : Int) ≤ 100) = true := by simp; omega
      have d2' : (s.size : Int) ≤ 100 := by omega
      cases h3 : s.data.toList.contains 47 with
      | true =>
        have i3 := index_has h3
        obtain ⟨k, hk⟩ : ∃ k, k = Lib.indexByte s.data.toList 47 := ⟨_, rfl⟩
        rw [← hk] at i3
        have K := Lib.hid hk
        have HF : Hid (r = false) := by unfold Hid PartH at *; rw [HR, h3]; simp
        have hk0 : decide (k < 0) = false := by simp; omega
        clear hk h3 HR
        go_enter Try.func43, Try.ntmps43
        go_wp2_with (go_at_call 56; refine (index_lit s 47 47 rfl _).mono ?_; rintro e w' ⟨rfl, rfl⟩; rw [← K.out])
        go_ret
        rw [HF.out]
        exact ⟨rfl, rfl⟩
      | false =>
        have i3 := Lib.hid (index_hasnt h3)
        cases h4 : s.data.toList.contains 0 with
        | true =>
          have i4 := index_has h4
          obtain ⟨k, hk⟩ : ∃ k, k = Lib.indexByte s.data.toList 0 := ⟨_, rfl⟩
          rw [← hk] at i4
          have K := Lib.hid hk
          have HF : Hid (r = false) := by unfold Hid PartH at *; rw [HR, h4]; simp
          have hk0 : decide (k < 0) = false := by simp; omega
          clear hk h3 h4 HR
          go_enter Try.func43, Try.ntmps43
          go_wp2_with (first
            | (go_at_call 56; refine (index_lit s 47 47 rfl _).mono ?_; rintro e w' ⟨rfl, rfl⟩; rw [i3.out])
            | (go_at_call 56; refine (index_lit s 0 0 rfl _).mono ?_; rintro e w' ⟨rfl, rfl⟩; rw [← K.out]))
          go_ret
          rw [HF.out]
          exact ⟨rfl, rfl⟩
        | false =>
          have i4 := Lib.hid (index_hasnt h4)
          have HF : Hid (r = (!(s.toList == [46]) && !(s.toList == [46, 46]))) := by unfold Hid PartH at *; rw [HR, h3, h4]; simp [h1, h2]
          clear h3 h4 HR
          go_enter Try.func43, Try.ntmps43
          go_wp2_with (first
            | (go_at_call 56; refine (index_lit s 47 47 rfl _).mono ?_; rintro e w' ⟨rfl, rfl⟩; rw [i3.out])
            | (go_at_call 56; refine (index_lit s 0 0 rfl _).mono ?_; rintro e w' ⟨rfl, rfl⟩; rw [i4.out]))
          all_goals
            go_ret
            rw [HF.out]
            first
              | exact ⟨rfl, rfl⟩
              | exact ⟨by simp [*], rfl⟩
    · have d2 : decide ((s.size : Int) ≤ 100) = false := by simp; omega
      have d2' : ¬ (s.size : Int) ≤ 100 := by omega
      have HF : Hid (r = false) := by unfold Hid PartH at *; rw [HR, decide_eq_false h2]; simp
      clear HR
      go_enter Try.func43, Try.ntmps43
      go_wp2_with fail
      go_ret
      rw [HF.out]
      exact ⟨rfl, rfl⟩
  · have d1 : decide ((1 : Int) ≤ (s.size : Int)) = false := by simp; omega
    have d1' : ¬ (1 : Int) ≤ (s.size : Int) := by omega
    have HF : Hid (r = false) := by unfold Hid PartH at *; rw [HR, decide_eq_false h1]; simp
    clear HR
    go_enter Try.func43, Try.ntmps43
    go_wp2_with fail
    go_ret
    rw [HF.out]
    exact ⟨rfl, rfl⟩

theorem isId_calls (s : ByteArray) (w : World) : Calls Try.prog 111 #[.string s] w fun e w' => e = .returned (.bool (decide (s.size = 32))) ∧ w = w' := by
  by_cases h : s.size = 32
  · have d : ((s.size : Int) == 32) = true := beq_iff_eq.2 (by omega)
    have H := Lib.hid h
    clear h
    go_enter Try.func111, Try.ntmps111
    go_wp2_with fail
    go_ret
    exact ⟨by rw [decide_eq_true H.out]; rfl, rfl⟩
  · have d : ((s.size : Int) == 32) = false := beq_eq_false_iff_ne.2 (by omega)
    have H := Lib.hid h
    clear h
    go_enter Try.func111, Try.ntmps111
    go_wp2_with fail
    go_ret
    exact ⟨by rw [decide_eq_false H.out]; rfl, rfl⟩

set_option maxRecDepth 100000 in
set_option maxHeartbeats 800000 in
theorem toldRight_calls (who : ByteArray) (stamp : Int) (text : ByteArray) (w : World) : Calls Try.prog 113 #[.agg #[.string who, .int .i64 stamp, .string text]] w fun e w' => e = .returned (.bool (toldB who stamp text)) ∧ Below w.heap.size w w' := by
  have hbel : Below w.heap.size w (w.alloc (.cells #[.string who, .int .i64 stamp, .string text] 98)) := (Below.refl _ _).alloc (Nat.le_refl _) _
  by_cases h1 : who.size ≤ 1000
  · have d1 : decide ((who.size : Int) ≤ 1000) = true := by simp; omega
    by_cases h2 : text.size ≤ 1000
    · have d2 : decide ((text.size : Int) ≤ 1000) = true := by simp; omega
      by_cases h3 : 0 ≤ stamp
      · have d3 : decide (0 ≤ stamp) = true := by simp; omega
        by_cases h4 : stamp ≤ 1099511627776
        · have d4 : decide (stamp ≤ 1099511627776) = true := by simp; omega
          have HF : Hid (toldB who stamp text = true) := by unfold Hid toldB; simp [h1, h2, h3, h4]
          clear h1 h2
          go_enter Try.func113, Try.ntmps113
          go_wp2_with fail
          go_ret
          exact ⟨by rw [HF.out]; rfl, hbel⟩
        · have d4 : decide (stamp ≤ 1099511627776) = false := by simp; omega
          have HF : Hid (toldB who stamp text = false) := by unfold Hid toldB; simp [h4]
          clear h1 h2
          go_enter Try.func113, Try.ntmps113
          go_wp2_with fail
          go_ret
          exact ⟨by rw [HF.out]; rfl, hbel⟩
      · have d3 : decide (0 ≤ stamp) = false := by simp; omega
        have HF : Hid (toldB who stamp text = false) := by unfold Hid toldB; simp [h3]
        clear h1 h2
        go_enter Try.func113, Try.ntmps113
        go_wp2_with fail
        go_ret
        exact ⟨by rw [HF.out]; rfl, hbel⟩
    · have d2 : decide ((text.size : Int) ≤ 1000) = false := by simp; omega
      have HF : Hid (toldB who stamp text = false) := by unfold Hid toldB; simp [h2]
      clear h1 h2
      go_enter Try.func113, Try.ntmps113
      go_wp2_with fail
      go_ret
      exact ⟨by rw [HF.out]; rfl, hbel⟩
  · have d1 : decide ((who.size : Int) ≤ 1000) = false := by simp; omega
    have HF : Hid (toldB who stamp text = false) := by unfold Hid toldB; simp [h1]
    clear h1
    go_enter Try.func113, Try.ntmps113
    go_wp2_with fail
    go_ret
    exact ⟨by rw [HF.out]; rfl, hbel⟩
end Go.Proofs.Ytcefbhmmijmefaa
