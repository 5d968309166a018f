/- Rows of texts: compared; is one among them? Conditions: lengths below 2^47. -/
import Derived.Test.YteeajmgiamdfdaaRows
import Derived.Test.YteeajmgiamdfdaaGraphSpec
import Derived.Laws.Cover1
import Derived.Deep.QuietTactic
import Derived.BigQuiet
namespace Go.Dol
open Go.RowKit
set_option linter.unusedVariables false
def pc (l : List ByteArray) : List Value := l.map Value.string
theorem pc_length (l : List ByteArray) : (pc l).length = l.length := by simp [pc]
theorem pc_get {l : List ByteArray} {k : Nat} (h : k < l.length) : (pc l)[k]? = some (.string l[k]) := by simp [pc, List.getElem?_eq_getElem h]
theorem pc_append (a b : List ByteArray) : pc (a ++ b) = pc a ++ pc b := by simp [pc]
theorem pc_one (l : List ByteArray) : ∀ u ∈ pc l, u.oneCell' = true := by
  intro u hu
  obtain ⟨x, _, rfl⟩ := List.mem_map.1 hu
  rfl
theorem str_inj {x y : ByteArray} (h : x.toList = y.toList) : x = y := by
  rw [ByteArray.toList_eq, ByteArray.toList_eq] at h
  exact WideShapes.bytes_inj h
end Go.Dol
namespace Go.Proofs.Yteeajmgiamdfdaa
open Go.RowKit Go.Dol
set_option linter.unusedVariables false
/-- Whether two are one. -/
def RetEq (p : Prop) (w : World) (e : Ending) (w' : World) : Prop := ∃ (v : Bool) (n : Nat), e = .returned (.bool v) ∧ (v = true ↔ p) ∧ w' = w.drewN n
def SameTextsRel (a b : List ByteArray) (w : World) (i : Value) (wr : World) : Prop :=
  ∃ k q : Nat, i = .int .i64 k ∧ k ≤ a.length ∧ Hid (∀ j, j < k → a[j]? = b[j]?) ∧ Hid (wr = w.drewN q)

set_option maxRecDepth 100000 in
set_option maxHeartbeats 1600000 in
theorem SameTexts_calls (A : Option Addr) (a : List ByteArray) (c : Nat) (A2 : Option Addr) (b : List ByteArray) (c2 : Nat) (w : World) (B B2 : Nat) (hr : Rd w B 1 A a.length (pc a)) (hr2 : Rd w B2 1 A2 b.length (pc b)) (ha : a.length ≤ 140737488355328) (hb : b.length ≤ 140737488355328) :
    Calls Try.prog 13 #[.slice A a.length c, .slice A2 b.length c2] w (RetEq (a = b) w) := by
  by_cases hl : a.length = b.length
  · have d0 : ((a.length : Int) != (b.length : Int)) = false := by simp; omega
    have HL := Lib.hid hl
    have hl1 : a.length ≤ b.length := by omega
    clear hl
    go_enter Try.func13, Try.ntmps13
    go_wp2_with fail
    go_loopw [5] (fun i wr => SameTextsRel a b w i wr) (fun i _ => a.length - (intOf i).toNat)
    case atStart => exact ⟨0, 0, rfl, Nat.zero_le _, fun j hj => by omega, rfl⟩
    case round =>
      obtain ⟨k, q, rfl, hk, hs, hwr⟩ := hrel
      have hrw : Rd wr B 1 A a.length (pc a) := by rw [hwr.out]; exact hr.drewN q
      have hrw2 : Rd wr B2 1 A2 b.length (pc b) := by rw [hwr.out]; exact hr2.drewN q
      have f1 : IntKind.i64.wrap ((k : Int) + 1) = (k : Int) + 1 := IntWalk.i64_in _ (by omega)
      by_cases h1 : k < a.length
      · have d1 : decide ((k : Int) < (a.length : Int)) = true := by simp; omega
        have d1' : (k : Int) < (a.length : Int) := by omega
        have d2' : (k : Int) < (b.length : Int) := by omega
        have hk0 : (0 : Int) ≤ (k : Int) := by omega
        have h2 : k < b.length := by omega
        have hlen1 : a.length ≤ 9223372036854775807 := by omega
        obtain ⟨bb, off, rfl, hbb, hcell⟩ := hrw.at_ (by omega)
        obtain ⟨bb2, off2, rfl, hbb2, hcell2⟩ := hrw2.at_ (by omega)
        have c1 := hcell k _ (pc_get h1)
        have c2 := hcell2 k _ (pc_get h2)
        have g1 : a[k]? = some a[k] := List.getElem?_eq_getElem h1
        have g2 : b[k]? = some b[k] := List.getElem?_eq_getElem h2
        have G1 := Lib.hid g1
        have G2 := Lib.hid g2
        obtain ⟨x, hx⟩ : ∃ x, x = a[k] := ⟨_, rfl⟩
        obtain ⟨y, hy⟩ : ∃ y, y = b[k] := ⟨_, rfl⟩
        rw [← hx] at c1 G1
        rw [← hy] at c2 G2
        clear hx hy g1 g2 hcell hcell2
        by_cases h3 : x = y
        · subst h3
          have HS : Hid (∀ j, j < k + 1 → a[j]? = b[j]?) := fun j hj => by
            by_cases hjk : j = k
            · rw [hjk, G1.out, G2.out]
            · exact hs.out j (by omega)
          go_wp2_with fail
          go_quiet (fail)
          go_wp2_with fail
          refine ⟨⟨k + 1, q + nq, by go_num, by omega, HS, by unfold Hid; rw [hwr.out, World.drewN_drewN]⟩, by simp [intOf]; omega⟩
        · have HN : Hid (¬ a = b) := fun e => by
            have h4 := G2.out
            rw [← e, G1.out] at h4
            injection h4 with h4
            exact h3 h4
          have hne : (x.toList == y.toList) = false := beq_eq_false_iff_ne.2 fun e => h3 (str_inj e)
          go_wp2_with fail
          go_quiet (fail)
          go_wp2_with fail
          go_ret
          exact ⟨false, q + nq, rfl, by simp [HN.out], by rw [hwr.out, World.drewN_drewN]⟩
      · have d1 : decide ((k : Int) < (a.length : Int)) = false := by simp; omega
        have d1' : ¬ (k : Int) < (a.length : Int) := by omega
        have HE : Hid (a = b) := List.ext_getElem? fun j => by
          rcases Nat.lt_or_ge j a.length with hj | hj
          · exact hs.out j (by omega)
          · rw [List.getElem?_eq_none hj, List.getElem?_eq_none (by rw [← HL.out]; exact hj)]
        go_wp2_with fail
        go_ret
        exact ⟨true, q, rfl, by simp [HE.out], hwr.out⟩
  · have d0 : ((a.length : Int) != (b.length : Int)) = true := bne_iff_ne.2 (by omega)
    have HN : Hid (¬ a = b) := fun e => hl (by rw [e])
    clear hl
    go_enter Try.func13, Try.ntmps13
    go_wp2_with fail
    go_ret
    exact ⟨false, 0, rfl, by simp [HN.out], rfl⟩

/-- The rounds of 'has': it is none of the first k. -/
def HasRel (l : List ByteArray) (s : ByteArray) (w : World) (i : Value) (wr : World) : Prop :=
  ∃ k q : Nat, i = .int .i64 k ∧ k ≤ l.length ∧ Hid (∀ j, j < k → l[j]? ≠ some s) ∧ Hid (wr = w.drewN q)
set_option maxRecDepth 100000 in
set_option maxHeartbeats 1600000 in
theorem refHas_calls (A : Option Addr) (l : List ByteArray) (c : Nat) (s : ByteArray) (w : World) (B : Nat) (hr : Rd w B 1 A l.length (pc l)) (ha : l.length ≤ 140737488355328) :
    Calls Try.prog 34 #[.slice A l.length c, .string s] w (RetEq (s ∈ l) w) := by
  go_enter Try.func34, Try.ntmps34
  go_wp2_with fail
  go_loopw [5] (fun i wr => HasRel l s w i wr) (fun i _ => l.length - (intOf i).toNat)
  case atStart => exact ⟨0, 0, rfl, Nat.zero_le _, fun j hj => by omega, rfl⟩
  case round =>
    obtain ⟨k, q, rfl, hk, hs, hwr⟩ := hrel
    have hrw : Rd wr B 1 A l.length (pc l) := by rw [hwr.out]; exact hr.drewN q
    have f1 : IntKind.i64.wrap ((k : Int) + 1) = (k : Int) + 1 := IntWalk.i64_in _ (by omega)
    by_cases h1 : k < l.length
    · have d1 : decide ((k : Int) < (l.length : Int)) = true := by simp; omega
      have d1' : (k : Int) < (l.length : Int) := by omega
      have hk0 : (0 : Int) ≤ (k : Int) := by omega
      obtain ⟨bb, off, rfl, hbb, hcell⟩ := hrw.at_ (by omega)
      have c1 := hcell k _ (pc_get h1)
      have g1 : l[k]? = some l[k] := List.getElem?_eq_getElem h1
      have G1 := Lib.hid g1
      obtain ⟨x, hx⟩ : ∃ x, x = l[k] := ⟨_, rfl⟩
      rw [← hx] at c1 G1
      clear hx g1 hcell
      by_cases h3 : x = s
      · have heq : (x.toList == s.toList) = true := by rw [h3]; exact beq_self_eq_true _
        have HM : Hid (s ∈ l) := by rw [← h3]; exact List.mem_of_getElem? G1.out
        clear h3
        go_wp2_with fail
        go_ret
        exact ⟨true, q, rfl, by simp [HM.out], hwr.out⟩
      · have hne : (x.toList == s.toList) = false := beq_eq_false_iff_ne.2 fun e => h3 (str_inj e)
        have HS : Hid (∀ j, j < k + 1 → l[j]? ≠ some s) := fun j hj => by
          by_cases hjk : j = k
          · rw [hjk, G1.out]
            intro e
            injection e with e
            exact h3 e
          · exact hs.out j (by omega)
        clear h3
        go_wp2_with fail
        exact ⟨⟨k + 1, q, by go_num, by omega, HS, hwr⟩, by simp [intOf]; omega⟩
    · have d1 : decide ((k : Int) < (l.length : Int)) = false := by simp; omega
      have d1' : ¬ (k : Int) < (l.length : Int) := by omega
      have HN : Hid (s ∉ l) := fun hm => by
        obtain ⟨j, hj, e⟩ := List.mem_iff_getElem.1 hm
        exact hs.out j (by omega) (by rw [List.getElem?_eq_getElem hj, e])
      go_wp2_with fail
      go_ret
      exact ⟨false, q, rfl, by simp [HN.out], hwr.out⟩
set_option maxRecDepth 100000 in
set_option maxHeartbeats 1600000 in
theorem lawHas_calls (A : Option Addr) (l : List ByteArray) (c : Nat) (s : ByteArray) (w : World) (B : Nat) (hr : Rd w B 1 A l.length (pc l)) (ha : l.length ≤ 140737488355328) :
    Calls Try.prog 20 #[.slice A l.length c, .string s] w (RetEq (s ∈ l) w) := by
  go_enter Try.func20, Try.ntmps20
  go_wp2_with fail
  go_loopw [5] (fun i wr => HasRel l s w i wr) (fun i _ => l.length - (intOf i).toNat)
  case atStart => exact ⟨0, 0, rfl, Nat.zero_le _, fun j hj => by omega, rfl⟩
  case round =>
    obtain ⟨k, q, rfl, hk, hs, hwr⟩ := hrel
    have hrw : Rd wr B 1 A l.length (pc l) := by rw [hwr.out]; exact hr.drewN q
    have f1 : IntKind.i64.wrap ((k : Int) + 1) = (k : Int) + 1 := IntWalk.i64_in _ (by omega)
    by_cases h1 : k < l.length
    · have d1 : decide ((k : Int) < (l.length : Int)) = true := by simp; omega
      have d1' : (k : Int) < (l.length : Int) := by omega
      have hk0 : (0 : Int) ≤ (k : Int) := by omega
      obtain ⟨bb, off, rfl, hbb, hcell⟩ := hrw.at_ (by omega)
      have c1 := hcell k _ (pc_get h1)
      have g1 : l[k]? = some l[k] := List.getElem?_eq_getElem h1
      have G1 := Lib.hid g1
      obtain ⟨x, hx⟩ : ∃ x, x = l[k] := ⟨_, rfl⟩
      rw [← hx] at c1 G1
      clear hx g1 hcell
      by_cases h3 : x = s
      · have heq : (x.toList == s.toList) = true := by rw [h3]; exact beq_self_eq_true _
        have HM : Hid (s ∈ l) := by rw [← h3]; exact List.mem_of_getElem? G1.out
        clear h3
        go_wp2_with fail
        go_ret
        exact ⟨true, q, rfl, by simp [HM.out], hwr.out⟩
      · have hne : (x.toList == s.toList) = false := beq_eq_false_iff_ne.2 fun e => h3 (str_inj e)
        have HS : Hid (∀ j, j < k + 1 → l[j]? ≠ some s) := fun j hj => by
          by_cases hjk : j = k
          · rw [hjk, G1.out]
            intro e
            injection e with e
            exact h3 e
          · exact hs.out j (by omega)
        clear h3
        go_wp2_with fail
        exact ⟨⟨k + 1, q, by go_num, by omega, HS, hwr⟩, by simp [intOf]; omega⟩
    · have d1 : decide ((k : Int) < (l.length : Int)) = false := by simp; omega
      have d1' : ¬ (k : Int) < (l.length : Int) := by omega
      have HN : Hid (s ∉ l) := fun hm => by
        obtain ⟨j, hj, e⟩ := List.mem_iff_getElem.1 hm
        exact hs.out j (by omega) (by rw [List.getElem?_eq_getElem hj, e])
      go_wp2_with fail
      go_ret
      exact ⟨false, q, rfl, by simp [HN.out], hwr.out⟩
end Go.Proofs.Yteeajmgiamdfdaa
