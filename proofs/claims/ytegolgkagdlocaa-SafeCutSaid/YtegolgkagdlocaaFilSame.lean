/- The walk of the document's SameFiles: are two rows of files the same? Conditions: fewer than 3518437208883 files. -/
import Derived.Test.YtegolgkagdlocaaFil
import Derived.Test.YtegolgkagdlocaaU8
import Derived.BigQuiet
import Derived.Deep.DeepCutAuto
namespace Go.Proofs.Ytegolgkagdlocaa
open Go.RowKit Go.Dol
set_option linter.unusedVariables false
theorem ba_toList_inj {x y : ByteArray} (h : x.toList = y.toList) : x = y := by
  rw [ByteArray.toList_eq, ByteArray.toList_eq] at h
  exact WideShapes.bytes_inj h
/-- An answer, and a world that has only drawn. -/
def RetSame (P : Prop) (w : World) (e : Ending) (w' : World) : Prop := ∃ (u : Bool) (n : Nat), e = .returned (.bool u) ∧ (u = true ↔ P) ∧ w' = w.drewN n
def SfRel (a b : List FilA) (w : World) (i : Value) (wr : World) : Prop :=
  ∃ (k q : Nat), i = .int .i64 k ∧ k ≤ a.length ∧ Hid (∀ j, j < k → (a.map FilA.f)[j]? = (b.map FilA.f)[j]?) ∧ Hid (wr = w.drewN q)
set_option maxRecDepth 100000 in
set_option maxHeartbeats 4000000 in
theorem SameFiles_calls (A : Option Addr) (a : List FilA) (c : Nat) (A2 : Option Addr) (b : List FilA) (c2 : Nat) (w : World) (B B2 F F2 : Nat) (hr : Rd w B 2 A a.length (fc a)) (hr2 : Rd w B2 2 A2 b.length (fc b)) (hF : Fls8 w F a) (hF2 : Fls8 w F2 b) (ha : a.length ≤ 3518437208883) (hb : b.length ≤ 3518437208883) :
    Calls Try.prog 21 #[.slice A a.length c, .slice A2 b.length c2] w (RetSame (a.map FilA.f = b.map FilA.f) w) := by
  by_cases hl : a.length = b.length
  · have d0 : ((a.length : Int) != (b.length : Int)) = false := by simp; omega
    have HL := Lib.hid hl
    have hl1 : a.length ≤ b.length := by omega
    clear hl
    go_enter Try.func21, Try.ntmps21
    go_wp2_with fail
    go_loopw [5] (fun i wr => SfRel a b w i wr) (fun i _ => a.length - (intOf i).toNat)
    case atStart => exact ⟨0, 0, rfl, Nat.zero_le _, fun j hj => by omega, rfl⟩
    case round =>
      obtain ⟨k, q, rfl, hk, hs, hwr⟩ := hrel
      have hrw : Rd wr B 2 A a.length (fc a) := by rw [hwr.out]; exact hr.drewN q
      have hrw2 : Rd wr B2 2 A2 b.length (fc b) := by rw [hwr.out]; exact hr2.drewN q
      have f1 : IntKind.i64.wrap ((k : Int) + 1) = (k : Int) + 1 := IntWalk.i64_in _ (by omega)
      by_cases h1 : k < a.length
      · have d1 : decide ((k : Int) < (a.length : Int)) = true := by simp; omega
        have d1' : (k : Int) < (a.length : Int) := by omega
        have d2' : (k : Int) < (b.length : Int) := by omega
        have hk0 : (0 : Int) ≤ (k : Int) := by omega
        have h2 : k < b.length := by omega
        have hlen1 : a.length ≤ 9223372036854775807 := by omega
        obtain ⟨bb, off, rfl, hbb, hcell⟩ := hrw.at_ (by omega)
        obtain ⟨bb2, off2, rfl, hbb2, hcell2⟩ := hrw2.at_ (by omega)
        have g1 : a[k]? = some a[k] := List.getElem?_eq_getElem h1
        have g2 : b[k]? = some b[k] := List.getElem?_eq_getElem h2
        obtain ⟨x, hx⟩ : ∃ x, x = a[k] := ⟨_, rfl⟩
        obtain ⟨y, hy⟩ : ∃ y, y = b[k] := ⟨_, rfl⟩
        rw [← hx] at g1
        rw [← hy] at g2
        have c1 := hcell _ _ (fc_get g1).1
        have c2' : wr.cell? ⟨bb, off + k * 2 + 1, none⟩ = _ := hcell _ _ (fc_get g1).2
        have e1 := hcell2 _ _ (fc_get g2).1
        have e2 : wr.cell? ⟨bb2, off2 + k * 2 + 1, none⟩ = _ := hcell2 _ _ (fc_get g2).2
        have xF := (hF x (List.mem_of_getElem? g1)).1
        have yF := (hF2 y (List.mem_of_getElem? g2)).1
        have m1 : (a.map FilA.f)[k]? = some x.f := by rw [List.getElem?_map, g1]; rfl
        have m2 : (b.map FilA.f)[k]? = some y.f := by rw [List.getElem?_map, g2]; rfl
        obtain ⟨xn, xb, xA, xc⟩ := x
        obtain ⟨yn, yb, yA, yc⟩ := y
        simp only at c1 c2' e1 e2 xF yF
        have m1' : (a.map FilA.f)[k]? = some (xn, xb) := m1
        have m2' : (b.map FilA.f)[k]? = some (yn, yb) := m2
        have v1 : ∀ j : Nat, (convert 23 9 (.slice xA xb.length xc)).run Try.prog (wr.drewN j) = .ok (.string ⟨xb.toArray⟩) (wr.drewN j) := fun j => by
          have h1 : Rd (wr.drewN j) w.heap.size 1 xA xb.length (bc xb) := by rw [hwr.out, World.drewN_drewN]; exact xF.1.drewN _
          exact conv8f h1
        have v2 : ∀ j : Nat, (convert 23 9 (.slice yA yb.length yc)).run Try.prog (wr.drewN j) = .ok (.string ⟨yb.toArray⟩) (wr.drewN j) := fun j => by
          have h1 : Rd (wr.drewN j) w.heap.size 1 yA yb.length (bc yb) := by rw [hwr.out, World.drewN_drewN]; exact yF.1.drewN _
          exact conv8f h1
        have M1 := Lib.hid m1'
        have M2 := Lib.hid m2'
        clear hx hy g1 g2 hcell hcell2 m1 m2 m1' m2' xF yF
        by_cases h3 : xn = yn
        · subst h3
          by_cases h4 : xb = yb
          · subst h4
            have HS : Hid (∀ j, j < k + 1 → (a.map FilA.f)[j]? = (b.map FilA.f)[j]?) := fun j hj => by
              by_cases hjk : j = k
              · rw [hjk, M1.out, M2.out]
              · exact hs.out j (by omega)
            go_wp2_with fail
            go_quiet (fail)
            go_wp2_with fail
            refine ⟨⟨k + 1, q + nq, by go_num, by omega, HS, by unfold Hid; rw [hwr.out, World.drewN_drewN]⟩, by simp [intOf]; omega⟩
          · have HN : Hid (¬ a.map FilA.f = b.map FilA.f) := fun e => by
              have h5 := M2.out
              rw [← e, M1.out] at h5
              injection h5 with h5
              injection h5 with h6 h7
              exact h4 h7
            have hne : (xb == yb) = false := beq_eq_false_iff_ne.2 h4
            go_wp2_with fail
            go_quiet (fail)
            go_wp2_with fail
            go_ret
            exact ⟨false, q + nq, rfl, by simp [HN.out], by rw [hwr.out, World.drewN_drewN]⟩
        · have HN : Hid (¬ a.map FilA.f = b.map FilA.f) := fun e => by
            have h5 := M2.out
            rw [← e, M1.out] at h5
            injection h5 with h5
            injection h5 with h6 h7
            exact h3 h6
          have hne : (xn.toList == yn.toList) = false := beq_eq_false_iff_ne.2 fun e => h3 (ba_toList_inj e)
          go_wp2_with fail
          go_quiet (fail)
          go_wp2_with fail
          go_ret
          exact ⟨false, q + nq, rfl, by simp [HN.out], by rw [hwr.out, World.drewN_drewN]⟩
      · have d1 : decide ((k : Int) < (a.length : Int)) = false := by simp; omega
        have d1' : ¬ (k : Int) < (a.length : Int) := by omega
        have HE : Hid (a.map FilA.f = b.map FilA.f) := List.ext_getElem? fun j => by
          rcases Nat.lt_or_ge j a.length with hj | hj
          · exact hs.out j (by omega)
          · have h4 := HL.out
            rw [List.getElem?_eq_none (by rw [List.length_map]; omega), List.getElem?_eq_none (by rw [List.length_map]; omega)]
        go_wp2_with fail
        go_ret
        exact ⟨true, q, rfl, by simp [HE.out], hwr.out⟩
  · have d0 : ((a.length : Int) != (b.length : Int)) = true := by simp; omega
    have HN : Hid (¬ a.map FilA.f = b.map FilA.f) := fun e => hl (by have := congrArg List.length e; simpa using this)
    clear hl
    go_enter Try.func21, Try.ntmps21
    go_wp2_with fail
    go_ret
    exact ⟨false, 0, rfl, by simp [HN.out], rfl⟩
end Go.Proofs.Ytegolgkagdlocaa
