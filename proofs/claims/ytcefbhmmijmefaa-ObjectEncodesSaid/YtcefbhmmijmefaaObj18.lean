/- The walks of the document's 'object', its first part: a name's part, who told what, what is empty. Conditions: none. -/
import Derived.Test.YtcefbhmmijmefaaObj1
import Derived.Test.YtcefbhmmijmefaaObj8
namespace Go.Dol
theorem str_get (s : ByteArray) {k : Nat} (h : k < s.size) : s[k]'h = s.data.toList[k]'(by rw [str_len]; exact h) := rfl
theorem partB_bad {s : ByteArray} {k : Nat} (h : k < s.data.toList.length) (hc : s.data.toList[k] = 0 ∨ s.data.toList[k] = 47) : partB s = false := by
  unfold partB
  rcases hc with hc | hc
  · have : s.data.toList.contains 0 = true := by rw [List.contains_iff_mem, ← hc]; exact List.getElem_mem h
    rw [this]; rfl
  · have : s.data.toList.contains 47 = true := by rw [List.contains_iff_mem, ← hc]; exact List.getElem_mem h
    rw [this]; simp
theorem partB_rest {s : ByteArray} (h : ∀ (j : Nat) (hj : j < s.data.toList.length), s.data.toList[j] ≠ 0 ∧ s.data.toList[j] ≠ 47) : partB s = (decide (1 ≤ s.size) && decide (s.size ≤ 100) && (!(s.toList == [46]) && !(s.toList == [46, 46]))) := by
  have h0 : s.data.toList.contains 0 = false := by
    rw [Bool.eq_false_iff]
    intro h1
    rw [List.contains_iff_mem] at h1
    obtain ⟨j, hj, e⟩ := List.getElem_of_mem h1
    exact (h j hj).1 e
  have h1 : s.data.toList.contains 47 = false := by
    rw [Bool.eq_false_iff]
    intro h1
    rw [List.contains_iff_mem] at h1
    obtain ⟨j, hj, e⟩ := List.getElem_of_mem h1
    exact (h j hj).2 e
  unfold partB
  rw [h0, h1]
  simp
theorem str_some {s : ByteArray} (h : ¬ s.size = 0) : ¬ s.toList = [] := fun e => h (by
  rw [ByteArray.toList_eq] at e
  rw [← str_len, e]
  rfl)
theorem u8_ne {x : UInt8} {n : Nat} (h : x ≠ UInt8.ofNat n) (hn : n < 256) : ¬ ((x.toNat : Int) = (n : Nat)) := fun e => h (UInt8.toNat_inj.1 (by rw [UInt8.toNat_ofNat']; omega))
end Go.Dol
namespace Go.Proofs.Ytcefbhmmijmefaa
open Go.RowKit Go.Dol
set_option linter.unusedVariables false

def PartRel (s : ByteArray) (w : World) (i : Value) (wr : World) : Prop := wr = w ∧ ∃ k : Nat, i = .int .i64 k ∧ k ≤ s.size ∧ Hid (∀ (j : Nat) (hj : j < s.data.toList.length), j < k → s.data.toList[j] ≠ 0 ∧ s.data.toList[j] ≠ 47)
set_option maxRecDepth 100000 in
set_option maxHeartbeats 2000000 in
theorem refPart_calls (s : ByteArray) (w : World) (hs : s.size ≤ maxLen) : Calls Try.prog 44 #[.string s] w fun e w' => e = .returned (.bool (partB s)) ∧ w = w' := by
  have hsm : s.size ≤ 9223372036854775807 := by unfold maxLen at hs; omega
  go_enter Try.func44, Try.ntmps44
  go_wp2_with fail
  go_loopw [3] (fun i wr => PartRel s w i wr) (fun i _ => s.size - (intOf i).toNat)
  case atStart => exact ⟨rfl, 0, rfl, Nat.zero_le _, Lib.hid (fun j _ h => by omega)⟩
  case round =>
    obtain ⟨rfl, k, rfl, hk, hall⟩ := hrel
    have f1 : k < s.size → IntKind.i64.wrap ((k : Int) + 1) = (k : Int) + 1 := fun h => IntWalk.i64_in _ (by omega)
    by_cases h1 : k < s.size
    · have f2 := f1 h1
      have d1 : decide ((k : Int) < (s.size : Int)) = true := decide_eq_true (by omega)
      have d1' : (k : Int) < (s.size : Int) := by omega
      have hk0 : (0 : Int) ≤ (k : Int) := by omega
      have hkl : k < s.data.toList.length := by rw [str_len]; exact h1
      obtain ⟨c, hc⟩ : ∃ c, c = s.data.toList[k] := ⟨_, rfl⟩
      have hsx : ∀ h : k < s.size, (s[k]'h).toNat = c.toNat := fun h => by rw [str_get s h, hc]
      have HC := Lib.hid hc
      clear hc f1
      by_cases hz : c = 0
      · have g1 : ((c.toNat : Int) == 0) = true := by rw [hz]; rfl
        have HP : Hid (partB s = false) := Lib.hid (partB_bad hkl (.inl (by rw [← HC.out, hz])))
        clear hz
        go_wp2_with fail
        go_ret
        exact ⟨by rw [HP.out]; rfl, rfl⟩
      · have hz' : ¬ ((c.toNat : Int) = 0) := u8_ne (n := 0) hz (by decide)
        have g1 : ((c.toNat : Int) == 0) = false := beq_eq_false_iff_ne.2 hz'
        by_cases hq : c = 47
        · have g2 : ((c.toNat : Int) == 47) = true := by rw [hq]; rfl
          have HP : Hid (partB s = false) := Lib.hid (partB_bad hkl (.inr (by rw [← HC.out, hq])))
          clear hq
          go_wp2_with fail
          go_ret
          exact ⟨by rw [HP.out]; rfl, rfl⟩
        · have hq' : ¬ ((c.toNat : Int) = 47) := u8_ne (n := 47) hq (by decide)
          have g2 : ((c.toNat : Int) == 47) = false := beq_eq_false_iff_ne.2 hq'
          have HA : Hid (∀ (j : Nat) (hj : j < s.data.toList.length), j < k + 1 → s.data.toList[j] ≠ 0 ∧ s.data.toList[j] ≠ 47) := fun j hj hjk => by
            by_cases e : j = k
            · subst e
              rw [← HC.out]
              exact ⟨hz, hq⟩
            · exact hall.out j hj (by omega)
          have HZ := Lib.hid hz
          have HQ := Lib.hid hq
          clear hz hq
          go_wp2_with fail
          exact ⟨⟨by first | trivial | rfl, k + 1, by go_num, h1, HA⟩, by simp [intOf]; omega⟩
    · have d1 : decide ((k : Int) < (s.size : Int)) = false := decide_eq_false (by omega)
      have d1' : ¬ (k : Int) < (s.size : Int) := by omega
      have HP : Hid (partB s = (decide (1 ≤ s.size) && decide (s.size ≤ 100) && (!(s.toList == [46]) && !(s.toList == [46, 46])))) := Lib.hid (partB_rest fun j hj => hall.out j hj (by rw [str_len] at hj; omega))
      clear f1 hall
      by_cases h2 : 1 ≤ s.size
      · have e1 : decide ((1 : Int) ≤ (s.size : Int)) = true := decide_eq_true (by omega)
        have e1' : decide ((s.size : Int) ≥ 1) = true := decide_eq_true (by omega)
        by_cases h3 : s.size ≤ 100
        · have e2 : decide ((s.size : Int) ≤ 100) = true := decide_eq_true (by omega)
          have HR : Hid (partB s = (!(s.toList == [46]) && !(s.toList == [46, 46]))) := by unfold Hid; rw [HP.out, decide_eq_true h2, decide_eq_true h3]; simp
          clear h2 h3
          cases h4 : (s.toList == [46]) with
          | true =>
            have h4' : s.toList = [46] := by simpa using h4
            go_wp2_with fail
            go_ret
            exact ⟨by rw [HR.out]; simp [*], rfl⟩
          | false =>
            have h4' : ¬ s.toList = [46] := by simpa using h4
            go_wp2_with fail
            go_ret
            exact ⟨by rw [HR.out]; simp [*], rfl⟩
        · have e2 : decide ((s.size : Int) ≤ 100) = false := decide_eq_false (by omega)
          have HR : Hid (partB s = false) := by unfold Hid; rw [HP.out, decide_eq_false h3]; simp
          clear h2 h3
          go_wp2_with fail
          go_ret
          exact ⟨by rw [HR.out]; rfl, rfl⟩
      · have e1 : decide ((1 : Int) ≤ (s.size : Int)) = false := decide_eq_false (by omega)
        have e1' : decide ((s.size : Int) ≥ 1) = false := decide_eq_false (by omega)
        have HR : Hid (partB s = false) := by unfold Hid; rw [HP.out, decide_eq_false h2]; simp
        clear h2
        go_wp2_with fail
        go_ret
        exact ⟨by rw [HR.out]; rfl, rfl⟩

set_option maxRecDepth 100000 in
set_option maxHeartbeats 2000000 in
theorem refTold_calls (k : Int) (Ad : Option Addr) (d : List UInt8) (cd : Nat) (Ae : Option Addr) (en : List Ent) (ce : Nat) (tr : ByteArray) (Ap : Option Addr) (pa : List ByteArray) (cp : Nat) (ta na wh : ByteArray) (st : Int) (te : ByteArray) (w : World) : Calls Try.prog 84 #[.agg #[.int .i64 k, .slice Ad d.length cd, .slice Ae en.length ce, .string tr, .slice Ap pa.length cp, .string ta, .string na, .string wh, .int .i64 st, .string te]] w fun e w' => e = .returned (.bool (toldB wh st te)) ∧ Below w.heap.size w w' := by
  have hb0 : Below w.heap.size w (w.alloc (.cells #[.int .i64 k, .slice Ad d.length cd, .slice Ae en.length ce, .string tr, .slice Ap pa.length cp, .string ta, .string na, .string wh, .int .i64 st, .string te] 43)) := (Below.refl _ _).alloc (Nat.le_refl _) _
  by_cases h1 : wh.size ≤ 1000
  · have d1 : decide ((wh.size : Int) ≤ 1000) = true := by simp; omega
    by_cases h2 : te.size ≤ 1000
    · have d2 : decide ((te.size : Int) ≤ 1000) = true := by simp; omega
      by_cases h3 : 0 ≤ st
      · have d3 : decide (0 ≤ st) = true := by simp; omega
        have d3' : decide (st ≥ 0) = true := by simp; omega
        by_cases h4 : st ≤ 1099511627776
        · have d4 : decide (st ≤ 1099511627776) = true := by simp; omega
          have HF : Hid (toldB wh st te = true) := by unfold Hid toldB; simp [h1, h2, h3, h4]
          clear h1 h2
          go_enter Try.func84, Try.ntmps84
          go_wp2_with fail
          go_ret
          exact ⟨by rw [HF.out]; rfl, hb0⟩
        · have d4 : decide (st ≤ 1099511627776) = false := by simp; omega
          have HF : Hid (toldB wh st te = false) := by unfold Hid toldB; simp [h4]
          clear h1 h2
          go_enter Try.func84, Try.ntmps84
          go_wp2_with fail
          go_ret
          exact ⟨by rw [HF.out]; rfl, hb0⟩
      · have d3 : decide (0 ≤ st) = false := by simp; omega
        have d3' : decide (st ≥ 0) = false := by simp; omega
        have HF : Hid (toldB wh st te = false) := by unfold Hid toldB; simp [h3]
        clear h1 h2
        go_enter Try.func84, Try.ntmps84
        go_wp2_with fail
        go_ret
        exact ⟨by rw [HF.out]; rfl, hb0⟩
    · have d2 : decide ((te.size : Int) ≤ 1000) = false := by simp; omega
      have HF : Hid (toldB wh st te = false) := by unfold Hid toldB; simp [h2]
      clear h1 h2
      go_enter Try.func84, Try.ntmps84
      go_wp2_with fail
      go_ret
      exact ⟨by rw [HF.out]; rfl, hb0⟩
  · have d1 : decide ((wh.size : Int) ≤ 1000) = false := by simp; omega
    have HF : Hid (toldB wh st te = false) := by unfold Hid toldB; simp [h1]
    clear h1
    go_enter Try.func84, Try.ntmps84
    go_wp2_with fail
    go_ret
    exact ⟨by rw [HF.out]; rfl, hb0⟩

set_option maxRecDepth 100000 in
set_option maxHeartbeats 4000000 in
theorem refBare1_n (k : Int) (Ad : Option Addr) (nd cd : Nat) (Ae : Option Addr) (ne ce : Nat) (tr : ByteArray) (Ap : Option Addr) (np cp : Nat) (ta na wh : ByteArray) (st : Int) (te : ByteArray) (w : World) : Calls Try.prog 81 #[.agg #[.int .i64 k, .slice Ad nd cd, .slice Ae ne ce, .string tr, .slice Ap np cp, .string ta, .string na, .string wh, .int .i64 st, .string te], .bool false, .bool true, .bool true, .bool true, .bool true] w fun e w' => e = .returned (.bool (decide (ne = 0) && (decide (tr.size = 0) && decide (np = 0)) && (decide (ta.size = 0) && decide (na.size = 0)) && (decide (wh.size = 0) && decide (te.size = 0) && decide (st = 0)))) ∧ Below w.heap.size w w' := by
  rcases Nat.eq_zero_or_pos ne with h0 | h0
  case inr =>
    obtain ⟨m0, rfl⟩ : ∃ m, ne = m + 1 := ⟨ne - 1, by omega⟩
    have hb0 : Below w.heap.size w (w.alloc (.cells #[.int .i64 k, .slice Ad nd cd, .slice Ae (m0 + 1) ce, .string tr, .slice Ap np cp, .string ta, .string na, .string wh, .int .i64 st, .string te] 43)) := (Below.refl _ _).alloc (Nat.le_refl _) _
    go_enter Try.func81, Try.ntmps81
    go_wp2_with fail
    go_ret
    exact ⟨by first | rfl | simp [*], hb0⟩
  case inl =>
    subst h0
    by_cases h1 : tr.size = 0
    case neg =>
      have t1 : ¬ tr.toList = [] := str_some h1
      have u1 : tr.toList.isEmpty = false := by simpa using t1
      have hb0 : Below w.heap.size w (w.alloc (.cells #[.int .i64 k, .slice Ad nd cd, .slice Ae 0 ce, .string tr, .slice Ap np cp, .string ta, .string na, .string wh, .int .i64 st, .string te] 43)) := (Below.refl _ _).alloc (Nat.le_refl _) _
      go_enter Try.func81, Try.ntmps81
      go_wp2_with fail
      go_ret
      exact ⟨by first | rfl | simp [*], hb0⟩
    case pos =>
      obtain rfl := size_zero h1
      clear h1
      rcases Nat.eq_zero_or_pos np with h2 | h2
      case inr =>
        obtain ⟨m2, rfl⟩ : ∃ m, np = m + 1 := ⟨np - 1, by omega⟩
        have hb0 : Below w.heap.size w (w.alloc (.cells #[.int .i64 k, .slice Ad nd cd, .slice Ae 0 ce, .string ⟨#[]⟩, .slice Ap (m2 + 1) cp, .string ta, .string na, .string wh, .int .i64 st, .string te] 43)) := (Below.refl _ _).alloc (Nat.le_refl _) _
        go_enter Try.func81, Try.ntmps81
        go_wp2_with fail
        go_ret
        exact ⟨by first | rfl | simp [*], hb0⟩
      case inl =>
        subst h2
        by_cases h3 : ta.size = 0
        case neg =>
          have t3 : ¬ ta.toList = [] := str_some h3
          have u3 : ta.toList.isEmpty = false := by simpa using t3
          have hb0 : Below w.heap.size w (w.alloc (.cells #[.int .i64 k, .slice Ad nd cd, .slice Ae 0 ce, .string ⟨#[]⟩, .slice Ap 0 cp, .string ta, .string na, .string wh, .int .i64 st, .string te] 43)) := (Below.refl _ _).alloc (Nat.le_refl _) _
          go_enter Try.func81, Try.ntmps81
          go_wp2_with fail
          go_ret
          exact ⟨by first | rfl | simp [*], hb0⟩
        case pos =>
          obtain rfl := size_zero h3
          clear h3
          by_cases h4 : na.size = 0
          case neg =>
            have t4 : ¬ na.toList = [] := str_some h4
            have u4 : na.toList.isEmpty = false := by simpa using t4
            have hb0 : Below w.heap.size w (w.alloc (.cells #[.int .i64 k, .slice Ad nd cd, .slice Ae 0 ce, .string ⟨#[]⟩, .slice Ap 0 cp, .string ⟨#[]⟩, .string na, .string wh, .int .i64 st, .string te] 43)) := (Below.refl _ _).alloc (Nat.le_refl _) _
            go_enter Try.func81, Try.ntmps81
            go_wp2_with fail
            go_ret
            exact ⟨by first | rfl | simp [*], hb0⟩
          case pos =>
            obtain rfl := size_zero h4
            clear h4
            by_cases h5 : wh.size = 0
            case neg =>
              have t5 : ¬ wh.toList = [] := str_some h5
              have u5 : wh.toList.isEmpty = false := by simpa using t5
              have hb0 : Below w.heap.size w (w.alloc (.cells #[.int .i64 k, .slice Ad nd cd, .slice Ae 0 ce, .string ⟨#[]⟩, .slice Ap 0 cp, .string ⟨#[]⟩, .string ⟨#[]⟩, .string wh, .int .i64 st, .string te] 43)) := (Below.refl _ _).alloc (Nat.le_refl _) _
              go_enter Try.func81, Try.ntmps81
              go_wp2_with fail
              go_ret
              exact ⟨by first | rfl | simp [*], hb0⟩
            case pos =>
              obtain rfl := size_zero h5
              clear h5
              by_cases h6 : te.size = 0
              case neg =>
                have t6 : ¬ te.toList = [] := str_some h6
                have u6 : te.toList.isEmpty = false := by simpa using t6
                have hb0 : Below w.heap.size w (w.alloc (.cells #[.int .i64 k, .slice Ad nd cd, .slice Ae 0 ce, .string ⟨#[]⟩, .slice Ap 0 cp, .string ⟨#[]⟩, .string ⟨#[]⟩, .string ⟨#[]⟩, .int .i64 st, .string te] 43)) := (Below.refl _ _).alloc (Nat.le_refl _) _
                go_enter Try.func81, Try.ntmps81
                go_wp2_with fail
                go_ret
                exact ⟨by first | rfl | simp [*], hb0⟩
              case pos =>
                obtain rfl := size_zero h6
                clear h6
                by_cases h7 : st = 0
                case neg =>
                  have t7 : (st == 0) = false := beq_eq_false_iff_ne.2 h7
                  have hb0 : Below w.heap.size w (w.alloc (.cells #[.int .i64 k, .slice Ad nd cd, .slice Ae 0 ce, .string ⟨#[]⟩, .slice Ap 0 cp, .string ⟨#[]⟩, .string ⟨#[]⟩, .string ⟨#[]⟩, .int .i64 st, .string ⟨#[]⟩] 43)) := (Below.refl _ _).alloc (Nat.le_refl _) _
                  go_enter Try.func81, Try.ntmps81
                  go_wp2_with fail
                  go_ret
                  exact ⟨by first | rfl | simp [*], hb0⟩
                case pos =>
                  subst h7
                  have hb0 : Below w.heap.size w (w.alloc (.cells #[.int .i64 k, .slice Ad nd cd, .slice Ae 0 ce, .string ⟨#[]⟩, .slice Ap 0 cp, .string ⟨#[]⟩, .string ⟨#[]⟩, .string ⟨#[]⟩, .int .i64 0, .string ⟨#[]⟩] 43)) := (Below.refl _ _).alloc (Nat.le_refl _) _
                  go_enter Try.func81, Try.ntmps81
                  go_wp2_with fail
                  go_ret
                  exact ⟨by first | rfl | simp [*], hb0⟩
theorem refBare1_calls (k : Int) (Ad : Option Addr) (d : List UInt8) (cd : Nat) (Ae : Option Addr) (en : List Ent) (ce : Nat) (tr : ByteArray) (Ap : Option Addr) (pa : List ByteArray) (cp : Nat) (ta na wh : ByteArray) (st : Int) (te : ByteArray) (w : World) : Calls Try.prog 81 #[.agg #[.int .i64 k, .slice Ad d.length cd, .slice Ae en.length ce, .string tr, .slice Ap pa.length cp, .string ta, .string na, .string wh, .int .i64 st, .string te], .bool false, .bool true, .bool true, .bool true, .bool true] w fun e w' => e = .returned (.bool (noEnts (⟨k, d, en, tr, pa, ta, na, wh, st, te⟩ : Go.Dol.Obj) && noCommit (⟨k, d, en, tr, pa, ta, na, wh, st, te⟩ : Go.Dol.Obj) && noTag (⟨k, d, en, tr, pa, ta, na, wh, st, te⟩ : Go.Dol.Obj) && noTold (⟨k, d, en, tr, pa, ta, na, wh, st, te⟩ : Go.Dol.Obj))) ∧ Below w.heap.size w w' :=
  refBare1_n k Ad d.length cd Ae en.length ce tr Ap pa.length cp ta na wh st te w

set_option maxRecDepth 100000 in
set_option maxHeartbeats 4000000 in
theorem refBare2_n (k : Int) (Ad : Option Addr) (nd cd : Nat) (Ae : Option Addr) (ne ce : Nat) (tr : ByteArray) (Ap : Option Addr) (np cp : Nat) (ta na wh : ByteArray) (st : Int) (te : ByteArray) (w : World) : Calls Try.prog 81 #[.agg #[.int .i64 k, .slice Ad nd cd, .slice Ae ne ce, .string tr, .slice Ap np cp, .string ta, .string na, .string wh, .int .i64 st, .string te], .bool true, .bool false, .bool true, .bool true, .bool true] w fun e w' => e = .returned (.bool (decide (nd = 0) && (decide (tr.size = 0) && decide (np = 0)) && (decide (ta.size = 0) && decide (na.size = 0)) && (decide (wh.size = 0) && decide (te.size = 0) && decide (st = 0)))) ∧ Below w.heap.size w w' := by
  rcases Nat.eq_zero_or_pos nd with h0 | h0
  case inr =>
    obtain ⟨m0, rfl⟩ : ∃ m, nd = m + 1 := ⟨nd - 1, by omega⟩
    have hb0 : Below w.heap.size w (w.alloc (.cells #[.int .i64 k, .slice Ad (m0 + 1) cd, .slice Ae ne ce, .string tr, .slice Ap np cp, .string ta, .string na, .string wh, .int .i64 st, .string te] 43)) := (Below.refl _ _).alloc (Nat.le_refl _) _
    go_enter Try.func81, Try.ntmps81
    go_wp2_with fail
    go_ret
    exact ⟨by first | rfl | simp [*], hb0⟩
  case inl =>
    subst h0
    by_cases h1 : tr.size = 0
    case neg =>
      have t1 : ¬ tr.toList = [] := str_some h1
      have u1 : tr.toList.isEmpty = false := by simpa using t1
      have hb0 : Below w.heap.size w (w.alloc (.cells #[.int .i64 k, .slice Ad 0 cd, .slice Ae ne ce, .string tr, .slice Ap np cp, .string ta, .string na, .string wh, .int .i64 st, .string te] 43)) := (Below.refl _ _).alloc (Nat.le_refl _) _
      go_enter Try.func81, Try.ntmps81
      go_wp2_with fail
      go_ret
      exact ⟨by first | rfl | simp [*], hb0⟩
    case pos =>
      obtain rfl := size_zero h1
      clear h1
      rcases Nat.eq_zero_or_pos np with h2 | h2
      case inr =>
        obtain ⟨m2, rfl⟩ : ∃ m, np = m + 1 := ⟨np - 1, by omega⟩
        have hb0 : Below w.heap.size w (w.alloc (.cells #[.int .i64 k, .slice Ad 0 cd, .slice Ae ne ce, .string ⟨#[]⟩, .slice Ap (m2 + 1) cp, .string ta, .string na, .string wh, .int .i64 st, .string te] 43)) := (Below.refl _ _).alloc (Nat.le_refl _) _
        go_enter Try.func81, Try.ntmps81
        go_wp2_with fail
        go_ret
        exact ⟨by first | rfl | simp [*], hb0⟩
      case inl =>
        subst h2
        by_cases h3 : ta.size = 0
        case neg =>
          have t3 : ¬ ta.toList = [] := str_some h3
          have u3 : ta.toList.isEmpty = false := by simpa using t3
          have hb0 : Below w.heap.size w (w.alloc (.cells #[.int .i64 k, .slice Ad 0 cd, .slice Ae ne ce, .string ⟨#[]⟩, .slice Ap 0 cp, .string ta, .string na, .string wh, .int .i64 st, .string te] 43)) := (Below.refl _ _).alloc (Nat.le_refl _) _
          go_enter Try.func81, Try.ntmps81
          go_wp2_with fail
          go_ret
          exact ⟨by first | rfl | simp [*], hb0⟩
        case pos =>
          obtain rfl := size_zero h3
          clear h3
          by_cases h4 : na.size = 0
          case neg =>
            have t4 : ¬ na.toList = [] := str_some h4
            have u4 : na.toList.isEmpty = false := by simpa using t4
            have hb0 : Below w.heap.size w (w.alloc (.cells #[.int .i64 k, .slice Ad 0 cd, .slice Ae ne ce, .string ⟨#[]⟩, .slice Ap 0 cp, .string ⟨#[]⟩, .string na, .string wh, .int .i64 st, .string te] 43)) := (Below.refl _ _).alloc (Nat.le_refl _) _
            go_enter Try.func81, Try.ntmps81
            go_wp2_with fail
            go_ret
            exact ⟨by first | rfl | simp [*], hb0⟩
          case pos =>
            obtain rfl := size_zero h4
            clear h4
            by_cases h5 : wh.size = 0
            case neg =>
              have t5 : ¬ wh.toList = [] := str_some h5
              have u5 : wh.toList.isEmpty = false := by simpa using t5
              have hb0 : Below w.heap.size w (w.alloc (.cells #[.int .i64 k, .slice Ad 0 cd, .slice Ae ne ce, .string ⟨#[]⟩, .slice Ap 0 cp, .string ⟨#[]⟩, .string ⟨#[]⟩, .string wh, .int .i64 st, .string te] 43)) := (Below.refl _ _).alloc (Nat.le_refl _) _
              go_enter Try.func81, Try.ntmps81
              go_wp2_with fail
              go_ret
              exact ⟨by first | rfl | simp [*], hb0⟩
            case pos =>
              obtain rfl := size_zero h5
              clear h5
              by_cases h6 : te.size = 0
              case neg =>
                have t6 : ¬ te.toList = [] := str_some h6
                have u6 : te.toList.isEmpty = false := by simpa using t6
                have hb0 : Below w.heap.size w (w.alloc (.cells #[.int .i64 k, .slice Ad 0 cd, .slice Ae ne ce, .string ⟨#[]⟩, .slice Ap 0 cp, .string ⟨#[]⟩, .string ⟨#[]⟩, .string ⟨#[]⟩, .int .i64 st, .string te] 43)) := (Below.refl _ _).alloc (Nat.le_refl _) _
                go_enter Try.func81, Try.ntmps81
                go_wp2_with fail
                go_ret
                exact ⟨by first | rfl | simp [*], hb0⟩
              case pos =>
                obtain rfl := size_zero h6
                clear h6
                by_cases h7 : st = 0
                case neg =>
                  have t7 : (st == 0) = false := beq_eq_false_iff_ne.2 h7
                  have hb0 : Below w.heap.size w (w.alloc (.cells #[.int .i64 k, .slice Ad 0 cd, .slice Ae ne ce, .string ⟨#[]⟩, .slice Ap 0 cp, .string ⟨#[]⟩, .string ⟨#[]⟩, .string ⟨#[]⟩, .int .i64 st, .string ⟨#[]⟩] 43)) := (Below.refl _ _).alloc (Nat.le_refl _) _
                  go_enter Try.func81, Try.ntmps81
                  go_wp2_with fail
                  go_ret
                  exact ⟨by first | rfl | simp [*], hb0⟩
                case pos =>
                  subst h7
                  have hb0 : Below w.heap.size w (w.alloc (.cells #[.int .i64 k, .slice Ad 0 cd, .slice Ae ne ce, .string ⟨#[]⟩, .slice Ap 0 cp, .string ⟨#[]⟩, .string ⟨#[]⟩, .string ⟨#[]⟩, .int .i64 0, .string ⟨#[]⟩] 43)) := (Below.refl _ _).alloc (Nat.le_refl _) _
                  go_enter Try.func81, Try.ntmps81
                  go_wp2_with fail
                  go_ret
                  exact ⟨by first | rfl | simp [*], hb0⟩
theorem refBare2_calls (k : Int) (Ad : Option Addr) (d : List UInt8) (cd : Nat) (Ae : Option Addr) (en : List Ent) (ce : Nat) (tr : ByteArray) (Ap : Option Addr) (pa : List ByteArray) (cp : Nat) (ta na wh : ByteArray) (st : Int) (te : ByteArray) (w : World) : Calls Try.prog 81 #[.agg #[.int .i64 k, .slice Ad d.length cd, .slice Ae en.length ce, .string tr, .slice Ap pa.length cp, .string ta, .string na, .string wh, .int .i64 st, .string te], .bool true, .bool false, .bool true, .bool true, .bool true] w fun e w' => e = .returned (.bool (noData (⟨k, d, en, tr, pa, ta, na, wh, st, te⟩ : Go.Dol.Obj) && noCommit (⟨k, d, en, tr, pa, ta, na, wh, st, te⟩ : Go.Dol.Obj) && noTag (⟨k, d, en, tr, pa, ta, na, wh, st, te⟩ : Go.Dol.Obj) && noTold (⟨k, d, en, tr, pa, ta, na, wh, st, te⟩ : Go.Dol.Obj))) ∧ Below w.heap.size w w' :=
  refBare2_n k Ad d.length cd Ae en.length ce tr Ap pa.length cp ta na wh st te w

set_option maxRecDepth 100000 in
set_option maxHeartbeats 4000000 in
theorem refBare3_n (k : Int) (Ad : Option Addr) (nd cd : Nat) (Ae : Option Addr) (ne ce : Nat) (tr : ByteArray) (Ap : Option Addr) (np cp : Nat) (ta na wh : ByteArray) (st : Int) (te : ByteArray) (w : World) : Calls Try.prog 81 #[.agg #[.int .i64 k, .slice Ad nd cd, .slice Ae ne ce, .string tr, .slice Ap np cp, .string ta, .string na, .string wh, .int .i64 st, .string te], .bool true, .bool true, .bool false, .bool true, .bool false] w fun e w' => e = .returned (.bool (decide (nd = 0) && decide (ne = 0) && (decide (ta.size = 0) && decide (na.size = 0)))) ∧ Below w.heap.size w w' := by
  rcases Nat.eq_zero_or_pos nd with h0 | h0
  case inr =>
    obtain ⟨m0, rfl⟩ : ∃ m, nd = m + 1 := ⟨nd - 1, by omega⟩
    have hb0 : Below w.heap.size w (w.alloc (.cells #[.int .i64 k, .slice Ad (m0 + 1) cd, .slice Ae ne ce, .string tr, .slice Ap np cp, .string ta, .string na, .string wh, .int .i64 st, .string te] 43)) := (Below.refl _ _).alloc (Nat.le_refl _) _
    go_enter Try.func81, Try.ntmps81
    go_wp2_with fail
    go_ret
    exact ⟨by first | rfl | simp [*], hb0⟩
  case inl =>
    subst h0
    rcases Nat.eq_zero_or_pos ne with h1 | h1
    case inr =>
      obtain ⟨m1, rfl⟩ : ∃ m, ne = m + 1 := ⟨ne - 1, by omega⟩
      have hb0 : Below w.heap.size w (w.alloc (.cells #[.int .i64 k, .slice Ad 0 cd, .slice Ae (m1 + 1) ce, .string tr, .slice Ap np cp, .string ta, .string na, .string wh, .int .i64 st, .string te] 43)) := (Below.refl _ _).alloc (Nat.le_refl _) _
      go_enter Try.func81, Try.ntmps81
      go_wp2_with fail
      go_ret
      exact ⟨by first | rfl | simp [*], hb0⟩
    case inl =>
      subst h1
      by_cases h2 : ta.size = 0
      case neg =>
        have t2 : ¬ ta.toList = [] := str_some h2
        have u2 : ta.toList.isEmpty = false := by simpa using t2
        have hb0 : Below w.heap.size w (w.alloc (.cells #[.int .i64 k, .slice Ad 0 cd, .slice Ae 0 ce, .string tr, .slice Ap np cp, .string ta, .string na, .string wh, .int .i64 st, .string te] 43)) := (Below.refl _ _).alloc (Nat.le_refl _) _
        go_enter Try.func81, Try.ntmps81
        go_wp2_with fail
        go_ret
        exact ⟨by first | rfl | simp [*], hb0⟩
      case pos =>
        obtain rfl := size_zero h2
        clear h2
        by_cases h3 : na.size = 0
        case neg =>
          have t3 : ¬ na.toList = [] := str_some h3
          have u3 : na.toList.isEmpty = false := by simpa using t3
          have hb0 : Below w.heap.size w (w.alloc (.cells #[.int .i64 k, .slice Ad 0 cd, .slice Ae 0 ce, .string tr, .slice Ap np cp, .string ⟨#[]⟩, .string na, .string wh, .int .i64 st, .string te] 43)) := (Below.refl _ _).alloc (Nat.le_refl _) _
          go_enter Try.func81, Try.ntmps81
          go_wp2_with fail
          go_ret
          exact ⟨by first | rfl | simp [*], hb0⟩
        case pos =>
          obtain rfl := size_zero h3
          clear h3
          have hb0 : Below w.heap.size w (w.alloc (.cells #[.int .i64 k, .slice Ad 0 cd, .slice Ae 0 ce, .string tr, .slice Ap np cp, .string ⟨#[]⟩, .string ⟨#[]⟩, .string wh, .int .i64 st, .string te] 43)) := (Below.refl _ _).alloc (Nat.le_refl _) _
          go_enter Try.func81, Try.ntmps81
          go_wp2_with fail
          go_ret
          exact ⟨by first | rfl | simp [*], hb0⟩
theorem refBare3_calls (k : Int) (Ad : Option Addr) (d : List UInt8) (cd : Nat) (Ae : Option Addr) (en : List Ent) (ce : Nat) (tr : ByteArray) (Ap : Option Addr) (pa : List ByteArray) (cp : Nat) (ta na wh : ByteArray) (st : Int) (te : ByteArray) (w : World) : Calls Try.prog 81 #[.agg #[.int .i64 k, .slice Ad d.length cd, .slice Ae en.length ce, .string tr, .slice Ap pa.length cp, .string ta, .string na, .string wh, .int .i64 st, .string te], .bool true, .bool true, .bool false, .bool true, .bool false] w fun e w' => e = .returned (.bool (noData (⟨k, d, en, tr, pa, ta, na, wh, st, te⟩ : Go.Dol.Obj) && noEnts (⟨k, d, en, tr, pa, ta, na, wh, st, te⟩ : Go.Dol.Obj) && noTag (⟨k, d, en, tr, pa, ta, na, wh, st, te⟩ : Go.Dol.Obj))) ∧ Below w.heap.size w w' :=
  refBare3_n k Ad d.length cd Ae en.length ce tr Ap pa.length cp ta na wh st te w

set_option maxRecDepth 100000 in
set_option maxHeartbeats 4000000 in
theorem refBare4_n (k : Int) (Ad : Option Addr) (nd cd : Nat) (Ae : Option Addr) (ne ce : Nat) (tr : ByteArray) (Ap : Option Addr) (np cp : Nat) (ta na wh : ByteArray) (st : Int) (te : ByteArray) (w : World) : Calls Try.prog 81 #[.agg #[.int .i64 k, .slice Ad nd cd, .slice Ae ne ce, .string tr, .slice Ap np cp, .string ta, .string na, .string wh, .int .i64 st, .string te], .bool true, .bool true, .bool true, .bool false, .bool false] w fun e w' => e = .returned (.bool (decide (nd = 0) && decide (ne = 0) && (decide (tr.size = 0) && decide (np = 0)))) ∧ Below w.heap.size w w' := by
  rcases Nat.eq_zero_or_pos nd with h0 | h0
  case inr =>
    obtain ⟨m0, rfl⟩ : ∃ m, nd = m + 1 := ⟨nd - 1, by omega⟩
    have hb0 : Below w.heap.size w (w.alloc (.cells #[.int .i64 k, .slice Ad (m0 + 1) cd, .slice Ae ne ce, .string tr, .slice Ap np cp, .string ta, .string na, .string wh, .int .i64 st, .string te] 43)) := (Below.refl _ _).alloc (Nat.le_refl _) _
    go_enter Try.func81, Try.ntmps81
    go_wp2_with fail
    go_ret
    exact ⟨by first | rfl | simp [*], hb0⟩
  case inl =>
    subst h0
    rcases Nat.eq_zero_or_pos ne with h1 | h1
    case inr =>
      obtain ⟨m1, rfl⟩ : ∃ m, ne = m + 1 := ⟨ne - 1, by omega⟩
      have hb0 : Below w.heap.size w (w.alloc (.cells #[.int .i64 k, .slice Ad 0 cd, .slice Ae (m1 + 1) ce, .string tr, .slice Ap np cp, .string ta, .string na, .string wh, .int .i64 st, .string te] 43)) := (Below.refl _ _).alloc (Nat.le_refl _) _
      go_enter Try.func81, Try.ntmps81
      go_wp2_with fail
      go_ret
      exact ⟨by first | rfl | simp [*], hb0⟩
    case inl =>
      subst h1
      by_cases h2 : tr.size = 0
      case neg =>
        have t2 : ¬ tr.toList = [] := str_some h2
        have u2 : tr.toList.isEmpty = false := by simpa using t2
        have hb0 : Below w.heap.size w (w.alloc (.cells #[.int .i64 k, .slice Ad 0 cd, .slice Ae 0 ce, .string tr, .slice Ap np cp, .string ta, .string na, .string wh, .int .i64 st, .string te] 43)) := (Below.refl _ _).alloc (Nat.le_refl _) _
        go_enter Try.func81, Try.ntmps81
        go_wp2_with fail
        go_ret
        exact ⟨by first | rfl | simp [*], hb0⟩
      case pos =>
        obtain rfl := size_zero h2
        clear h2
        rcases Nat.eq_zero_or_pos np with h3 | h3
        case inr =>
          obtain ⟨m3, rfl⟩ : ∃ m, np = m + 1 := ⟨np - 1, by omega⟩
          have hb0 : Below w.heap.size w (w.alloc (.cells #[.int .i64 k, .slice Ad 0 cd, .slice Ae 0 ce, .string ⟨#[]⟩, .slice Ap (m3 + 1) cp, .string ta, .string na, .string wh, .int .i64 st, .string te] 43)) := (Below.refl _ _).alloc (Nat.le_refl _) _
          go_enter Try.func81, Try.ntmps81
          go_wp2_with fail
          go_ret
          exact ⟨by first | rfl | simp [*], hb0⟩
        case inl =>
          subst h3
          have hb0 : Below w.heap.size w (w.alloc (.cells #[.int .i64 k, .slice Ad 0 cd, .slice Ae 0 ce, .string ⟨#[]⟩, .slice Ap 0 cp, .string ta, .string na, .string wh, .int .i64 st, .string te] 43)) := (Below.refl _ _).alloc (Nat.le_refl _) _
          go_enter Try.func81, Try.ntmps81
          go_wp2_with fail
          go_ret
          exact ⟨by first | rfl | simp [*], hb0⟩
theorem refBare4_calls (k : Int) (Ad : Option Addr) (d : List UInt8) (cd : Nat) (Ae : Option Addr) (en : List Ent) (ce : Nat) (tr : ByteArray) (Ap : Option Addr) (pa : List ByteArray) (cp : Nat) (ta na wh : ByteArray) (st : Int) (te : ByteArray) (w : World) : Calls Try.prog 81 #[.agg #[.int .i64 k, .slice Ad d.length cd, .slice Ae en.length ce, .string tr, .slice Ap pa.length cp, .string ta, .string na, .string wh, .int .i64 st, .string te], .bool true, .bool true, .bool true, .bool false, .bool false] w fun e w' => e = .returned (.bool (noData (⟨k, d, en, tr, pa, ta, na, wh, st, te⟩ : Go.Dol.Obj) && noEnts (⟨k, d, en, tr, pa, ta, na, wh, st, te⟩ : Go.Dol.Obj) && noCommit (⟨k, d, en, tr, pa, ta, na, wh, st, te⟩ : Go.Dol.Obj))) ∧ Below w.heap.size w w' :=
  refBare4_n k Ad d.length cd Ae en.length ce tr Ap pa.length cp ta na wh st te w

end Go.Proofs.Ytcefbhmmijmefaa
