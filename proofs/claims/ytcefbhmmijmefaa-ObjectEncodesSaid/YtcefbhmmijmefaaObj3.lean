/- The walks of the layer 'object', its third part: may a body be? Conditions: lengths below 2^47. -/
import Derived.Test.YtcefbhmmijmefaaObj2
import Derived.Test.YtcefbhmmijmefaaArr
namespace Go.Proofs.Ytcefbhmmijmefaa
open Go.RowKit Go.Dol
set_option linter.unusedVariables false

def geS (a b : ByteArray) : Bool := !(Op.bytesLess a.toList b.toList)
theorem Part_is (s : ByteArray) (v : Bool) (h : Hid (partB s = v)) (w : World) : Calls Try.prog 43 #[.string s] w fun e w' => e = .returned (.bool v) ∧ w' = w :=
  (Part_calls s w).mono fun e w' ⟨h1, h2⟩ => ⟨by rw [h1, h.out], h2.symm⟩
theorem isId_is (s : ByteArray) (v : Bool) (h : Hid (decide (s.size = 32) = v)) (w : World) : Calls Try.prog 111 #[.string s] w fun e w' => e = .returned (.bool v) ∧ w' = w :=
  (isId_calls s w).mono fun e w' ⟨h1, h2⟩ => ⟨by rw [h1, h.out], h2.symm⟩

theorem blobRight_calls (A : Option Addr) (n c : Nat) (w : World) : Calls Try.prog 107 #[.agg #[.slice A n c]] w fun e w' => e = .returned (.bool (decide (n ≤ 1048576))) ∧ Below w.heap.size w w' := by
  have hbel : Below w.heap.size w (w.alloc (.cells #[.slice A n c] 94)) := (Below.refl _ _).alloc (Nat.le_refl _) _
  by_cases h : n ≤ 1048576
  · have d : decide ((n : Int) ≤ 1048576) = true := by simp; omega
    have H := Lib.hid h
    clear h
    go_enter Try.func107, Try.ntmps107
    go_wp2_with fail
    go_ret
    exact ⟨by rw [decide_eq_true H.out]; rfl, hbel⟩
  · have d : decide ((n : Int) ≤ 1048576) = false := by simp; omega
    have H := Lib.hid h
    clear h
    go_enter Try.func107, Try.ntmps107
    go_wp2_with fail
    go_ret
    exact ⟨by rw [decide_eq_false H.out]; rfl, hbel⟩

def TreeRel (l : List Ent) (A : Option Addr) (c g : Nat) (w : World) (i : Value) (wr : World) : Prop :=
  ∃ k : Nat, i = .int .i64 k ∧ k ≤ l.length ∧ Hid (entsUp geS l k) ∧ Blk wr g 96 [.slice A l.length c] ∧ Below w.heap.size w wr

theorem ent_at {l : List Ent} {k : Nat} {e : Ent} (h : l[k]? = some e) : entAt geS l k = (partB e.name && decide (e.id.size = 32) && ordAt geS l e.name k) := by
  unfold entAt
  rw [h]
theorem ord_succ {l : List Ent} {j : Nat} {p : Ent} {nm : ByteArray} (h : l[j]? = some p) : ordAt geS l nm (j + 1) = !geS p.name nm := by
  show (match l[j]? with | none => true | some p => !geS p.name nm) = _
  rw [h]
theorem entsUp_succ {l : List Ent} {k : Nat} (h : entsUp geS l k) (hk : entAt geS l k = true) : entsUp geS l (k + 1) := fun i hi => by
  by_cases e : i = k
  · rw [e]; exact hk
  · exact h i (by omega)

set_option maxRecDepth 100000 in
set_option maxHeartbeats 4000000 in
theorem treeRight_calls (A : Option Addr) (l : List Ent) (c : Nat) (w : World) (hr : Rd w w.heap.size 3 A l.length (ec l)) (hl : l.length ≤ 140737488355328) :
    Calls Try.prog 110 #[.agg #[.slice A l.length c]] w fun e w' => e = .returned (.bool (entsB geS l)) ∧ Below w.heap.size w w' := by
  obtain ⟨r, hre⟩ : ∃ r, r = entsB geS l := ⟨_, rfl⟩
  rw [← hre]
  have HR := Lib.hid hre
  clear hre
  have hB := Blk.new w 96 [.slice A l.length c]
  have hb0 : Below w.heap.size w (w.alloc (.cells #[.slice A l.length c] 96)) := (Below.refl _ _).alloc (Nat.le_refl _) _
  go_enter Try.func110, Try.ntmps110
  go_wp2_with fail
  obtain ⟨g, hg⟩ : ∃ g, g = w.heap.size := ⟨_, rfl⟩
  obtain ⟨w0, hw0⟩ : ∃ w0, w0 = w.alloc (.cells #[.slice A l.length c] 96) := ⟨_, rfl⟩
  change Blk (w.alloc (.cells #[.slice A l.length c] 96)) _ _ _ at hB
  rw [← hw0] at hB hb0 ⊢
  rw [← hg] at hB ⊢
  have HG := Lib.hid hg
  clear hw0 hg
  go_loopw [8] (fun i wr => TreeRel l A c g w i wr) (fun i _ => l.length - (intOf i).toNat)
  case atStart => exact ⟨0, rfl, Nat.zero_le _, fun i hi => by omega, hB, hb0⟩
  case round =>
    clear hB hb0
    obtain ⟨k, rfl, hk, hup, hB, hbel⟩ := hrel
    have c0 : wr.cell? ⟨g, 0, none⟩ = some (.slice A l.length c) := by rw [hB.cell]; rfl
    have hgl := hB.lt
    have f1 : IntKind.i64.wrap ((k : Int) + 1) = (k : Int) + 1 := IntWalk.i64_in _ (by omega)
    by_cases h1 : k < l.length
    · have d1 : decide ((k : Int) < (l.length : Int)) = true := by simp; omega
      have d1' : (k : Int) < (l.length : Int) := by omega
      have hk0 : (0 : Int) ≤ (k : Int) := by omega
      have hlen1 : l.length ≤ 9223372036854775807 := by omega
      have hrw := hr.below hbel
      obtain ⟨bb, off, rfl, hbb, hcell⟩ := hrw.at_ (by omega)
      obtain ⟨p0, p1, p2⟩ := ec_get h1
      have q0 := hcell _ _ p0
      have q1 : wr.cell? ⟨bb, off + k * 3 + 1, none⟩ = _ := hcell _ _ p1
      have q2 : wr.cell? ⟨bb, off + k * 3 + 2, none⟩ = _ := hcell _ _ p2
      have g1 : l[k]? = some l[k] := List.getElem?_eq_getElem h1
      obtain ⟨x, hx⟩ : ∃ x, x = l[k] := ⟨_, rfl⟩
      rw [← hx] at q0 q1 q2 g1
      have hat := Lib.hid (ent_at g1)
      obtain ⟨x0, x1, x2⟩ := x
      simp only at q0 q1 q2 hat
      clear hx p0 p1 p2 g1
      have hbbl : bb < wr.heap.size := by have := hbel.size; omega
      have hB1 := hB.alloc (.cells #[.string x0, .bool x1, .string x2] 56)
      have hb1 : Below w.heap.size w (wr.alloc (.cells #[.string x0, .bool x1, .string x2] 56)) := hbel.alloc hbel.size _
      cases hp : partB x0 with
      | false =>
        have HF : Hid (r = false) := by unfold Hid; rw [HR.out, entsB_not h1 (by rw [hat.out, hp]; rfl)]
        have HP := Lib.hid hp
        clear hp hcell
        go_wp2_with fail
        go_quiet ((go_at_call 43; exact Calls.quiet_of_same (Part_is x0 _ HP _)))
        go_wp2_with fail
        go_ret
        rw [HF.out]
        exact ⟨rfl, hb1.drewN' nq⟩
      | true =>
        have HP := Lib.hid hp
        cases hi : decide (x2.size = 32) with
        | false =>
          have HF : Hid (r = false) := by unfold Hid; rw [HR.out, entsB_not h1 (by rw [hat.out, hi]; simp)]
          have HI := Lib.hid hi
          clear hp hi hcell
          go_wp2_with fail
          go_quiet ((first | (go_at_call 43; exact Calls.quiet_of_same (Part_is x0 _ HP _)) | (go_at_call 111; exact Calls.quiet_of_same (isId_is x2 _ HI _))))
          go_wp2_with fail
          go_ret
          rw [HF.out]
          exact ⟨rfl, hb1.drewN' nq⟩
        | true =>
          have HI := Lib.hid hi
          rcases Nat.eq_zero_or_pos k with hz | hz
          · have HU : Hid (entsUp geS l (k + 1)) := entsUp_succ hup.out (by rw [hat.out, hp, hi, hz]; rfl)
            have dz : decide ((0 : Int) < (k : Int)) = false := by simp; omega
            have dz' : ¬ (0 : Int) < (k : Int) := by omega
            have dzn : decide (0 < k) = false := by simp; omega
            clear hp hi hz hcell
            go_wp2_with fail
            go_quiet ((first | (go_at_call 43; exact Calls.quiet_of_same (Part_is x0 _ HP _)) | (go_at_call 111; exact Calls.quiet_of_same (isId_is x2 _ HI _))))
            go_wp2_with fail
            exact ⟨⟨k + 1, by go_num, by omega, HU, hB1.drewN nq, hb1.drewN' nq⟩, by simp [intOf]; omega⟩
          · obtain ⟨j, rfl⟩ : ∃ j, k = j + 1 := ⟨k - 1, by omega⟩
            have hj : j < l.length := by omega
            obtain ⟨t0, _, _⟩ := ec_get hj
            have q3 := hcell _ _ t0
            have g1 : l[j]? = some l[j] := List.getElem?_eq_getElem hj
            obtain ⟨y, hy⟩ : ∃ y, y = l[j] := ⟨_, rfl⟩
            rw [← hy] at q3 g1
            have hord := Lib.hid (ord_succ (nm := x0) g1)
            obtain ⟨y0, y1, y2⟩ := y
            simp only at q3 hord
            have dz : decide ((0 : Int) < ((j + 1 : Nat) : Int)) = true := decide_eq_true (by omega)
            have dz' : (0 : Int) < ((j + 1 : Nat) : Int) := by omega
            have fj : IntKind.i64.wrap (((j + 1 : Nat) : Int) - 1) = (j : Int) := (IntWalk.i64_in _ (by omega)).trans (by omega)
            have fj2 : IntKind.i64.wrap ((j : Int) + 1 - 1) = (j : Int) := (IntWalk.i64_in _ (by omega)).trans (by omega)
            have fj3 : (j : Int) < (l.length : Int) := by omega
            have fj4 : (0 : Int) ≤ (j : Int) := by omega
            cases hge : Op.bytesLess y0.toList x0.toList with
            | false =>
              have HF : Hid (r = false) := by
                unfold Hid
                rw [HR.out, entsB_not h1 (by rw [hat.out, hord.out]; unfold geS; rw [hge]; simp)]
              clear hp hi hy g1 t0 hcell
              go_wp2_with fail
              go_quiet ((first | (go_at_call 43; exact Calls.quiet_of_same (Part_is x0 _ HP _)) | (go_at_call 111; exact Calls.quiet_of_same (isId_is x2 _ HI _))))
              go_wp2_with fail
              go_ret
              rw [HF.out]
              exact ⟨rfl, hb1.drewN' nq⟩
            | true =>
              have HU : Hid (entsUp geS l (j + 1 + 1)) := entsUp_succ hup.out (by rw [hat.out, hord.out, hp, hi]; unfold geS; rw [hge]; rfl)
              clear hp hi hy g1 t0 hcell
              go_wp2_with fail
              go_quiet ((first | (go_at_call 43; exact Calls.quiet_of_same (Part_is x0 _ HP _)) | (go_at_call 111; exact Calls.quiet_of_same (isId_is x2 _ HI _))))
              go_wp2_with fail
              exact ⟨⟨j + 1 + 1, by go_num, by omega, HU, hB1.drewN nq, hb1.drewN' nq⟩, by simp [intOf]; omega⟩
    · have d1 : decide ((k : Int) < (l.length : Int)) = false := by simp; omega
      have d1' : ¬ (k : Int) < (l.length : Int) := by omega
      have hkl : k = l.length := by omega
      have HE : Hid (r = decide (l.length ≤ 4096)) := by unfold Hid; rw [HR.out, entsB_of (by rw [← hkl]; exact hup.out)]
      by_cases h2 : l.length ≤ 4096
      · have d2 : decide ((l.length : Int) ≤ 4096) = true := by simp; omega
        have HT : Hid (r = true) := by unfold Hid; rw [HE.out, decide_eq_true h2]
        clear hkl h2
        go_wp2_with fail
        go_ret
        rw [HT.out]
        exact ⟨rfl, hbel⟩
      · have d2 : decide ((l.length : Int) ≤ 4096) = false := by simp; omega
        have HT : Hid (r = false) := by unfold Hid; rw [HE.out, decide_eq_false h2]
        clear hkl h2
        go_wp2_with fail
        go_ret
        rw [HT.out]
        exact ⟨rfl, hbel⟩
end Go.Proofs.Ytcefbhmmijmefaa
