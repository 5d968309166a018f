/- The walks of the document's 'object', its third part: Check. Conditions: lengths below 2^47. -/
import Derived.Test.YtcefbhmmijmefaaObj19
import Derived.Test.YtcefbhmmijmefaaObj9
namespace Go.Proofs.Ytcefbhmmijmefaa
open Go.RowKit Go.Dol
set_option linter.unusedVariables false

theorem check_is1 (d : List UInt8) (en : List Ent) (tr : ByteArray) (pa : List ByteArray) (ta na wh : ByteArray) (st : Int) (te : ByteArray) : checkB geS (⟨1, d, en, tr, pa, ta, na, wh, st, te⟩ : Go.Dol.Obj) = (decide (d.length ≤ 1048576) && (noEnts (⟨1, d, en, tr, pa, ta, na, wh, st, te⟩ : Go.Dol.Obj) && noCommit (⟨1, d, en, tr, pa, ta, na, wh, st, te⟩ : Go.Dol.Obj) && noTag (⟨1, d, en, tr, pa, ta, na, wh, st, te⟩ : Go.Dol.Obj) && noTold (⟨1, d, en, tr, pa, ta, na, wh, st, te⟩ : Go.Dol.Obj))) := rfl
theorem check_is2 (d : List UInt8) (en : List Ent) (tr : ByteArray) (pa : List ByteArray) (ta na wh : ByteArray) (st : Int) (te : ByteArray) : checkB geS (⟨2, d, en, tr, pa, ta, na, wh, st, te⟩ : Go.Dol.Obj) = (entsB geS en && (noData (⟨2, d, en, tr, pa, ta, na, wh, st, te⟩ : Go.Dol.Obj) && noCommit (⟨2, d, en, tr, pa, ta, na, wh, st, te⟩ : Go.Dol.Obj) && noTag (⟨2, d, en, tr, pa, ta, na, wh, st, te⟩ : Go.Dol.Obj) && noTold (⟨2, d, en, tr, pa, ta, na, wh, st, te⟩ : Go.Dol.Obj))) := rfl
theorem check_is3 (d : List UInt8) (en : List Ent) (tr : ByteArray) (pa : List ByteArray) (ta na wh : ByteArray) (st : Int) (te : ByteArray) : checkB geS (⟨3, d, en, tr, pa, ta, na, wh, st, te⟩ : Go.Dol.Obj) = (decide (tr.size = 32) && parsB pa && toldB wh st te && (noData (⟨3, d, en, tr, pa, ta, na, wh, st, te⟩ : Go.Dol.Obj) && noEnts (⟨3, d, en, tr, pa, ta, na, wh, st, te⟩ : Go.Dol.Obj) && noTag (⟨3, d, en, tr, pa, ta, na, wh, st, te⟩ : Go.Dol.Obj))) := rfl
theorem check_is4 (d : List UInt8) (en : List Ent) (tr : ByteArray) (pa : List ByteArray) (ta na wh : ByteArray) (st : Int) (te : ByteArray) : checkB geS (⟨4, d, en, tr, pa, ta, na, wh, st, te⟩ : Go.Dol.Obj) = (decide (ta.size = 32) && decide (1 ≤ na.size) && decide (na.size ≤ 200) && toldB wh st te && (noData (⟨4, d, en, tr, pa, ta, na, wh, st, te⟩ : Go.Dol.Obj) && noEnts (⟨4, d, en, tr, pa, ta, na, wh, st, te⟩ : Go.Dol.Obj) && noCommit (⟨4, d, en, tr, pa, ta, na, wh, st, te⟩ : Go.Dol.Obj))) := rfl
set_option maxRecDepth 100000 in
set_option maxHeartbeats 4000000 in
theorem refCheck1_calls (Ad : Option Addr) (d : List UInt8) (cd : Nat) (Ae : Option Addr) (en : List Ent) (ce : Nat) (tr : ByteArray) (Ap : Option Addr) (pa : List ByteArray) (cp : Nat) (ta na wh : ByteArray) (st : Int) (te : ByteArray) (w : World) (he : Rd w w.heap.size 3 Ae en.length (ec en)) (hp : Rd w w.heap.size 1 Ap pa.length (pc pa)) (hel : en.length ≤ 140737488355328) (hpl : pa.length ≤ 140737488355328) (hns : Hid (∀ e ∈ en, e.name.size ≤ maxLen)) :
    Calls Try.prog 67 #[.agg #[.int .i64 1, .slice Ad d.length cd, .slice Ae en.length ce, .string tr, .slice Ap pa.length cp, .string ta, .string na, .string wh, .int .i64 st, .string te]] w fun e w' => e = .returned (.int .i64 (errC (checkB geS (⟨1, d, en, tr, pa, ta, na, wh, st, te⟩ : Go.Dol.Obj)))) ∧ Below w.heap.size w w' := by
  have hb0 : Below w.heap.size w (w.alloc (.cells #[.int .i64 1, .slice Ad d.length cd, .slice Ae en.length ce, .string tr, .slice Ap pa.length cp, .string ta, .string na, .string wh, .int .i64 st, .string te] 43)) := (Below.refl _ _).alloc (Nat.le_refl _) _
  have hB0 := Blk.new w 43 (ocells 1 (.slice Ad d.length cd) (.slice Ae en.length ce) tr (.slice Ap pa.length cp) ta na wh st te)
  have he0 := he.alive hb0
  have hp0 := hp.alive hb0
  obtain ⟨r, hr⟩ : ∃ r, r = checkB geS (⟨1, d, en, tr, pa, ta, na, wh, st, te⟩ : Go.Dol.Obj) := ⟨_, rfl⟩
  rw [← hr]
  have HR : Hid (r = (decide (d.length ≤ 1048576) && (noEnts (⟨1, d, en, tr, pa, ta, na, wh, st, te⟩ : Go.Dol.Obj) && noCommit (⟨1, d, en, tr, pa, ta, na, wh, st, te⟩ : Go.Dol.Obj) && noTag (⟨1, d, en, tr, pa, ta, na, wh, st, te⟩ : Go.Dol.Obj) && noTold (⟨1, d, en, tr, pa, ta, na, wh, st, te⟩ : Go.Dol.Obj)))) := hr
  clear hr
  by_cases q0 : d.length ≤ 1048576
  case neg =>
    have D0 : decide ((d.length : Int) ≤ 1048576) = false := decide_eq_false (by omega)
    have HF : Hid (r = false) := by unfold Hid; rw [HR.out, decide_eq_false q0]; simp
    clear q0
    go_enter Try.func67, Try.ntmps67
    go_wp2_with fail
    go_ret
    exact ⟨by rw [HF.out]; rfl, hb0⟩
  case pos =>
    have D0 : decide ((d.length : Int) ≤ 1048576) = true := decide_eq_true (by omega)
    cases h1 : (noEnts (⟨1, d, en, tr, pa, ta, na, wh, st, te⟩ : Go.Dol.Obj) && noCommit (⟨1, d, en, tr, pa, ta, na, wh, st, te⟩ : Go.Dol.Obj) && noTag (⟨1, d, en, tr, pa, ta, na, wh, st, te⟩ : Go.Dol.Obj) && noTold (⟨1, d, en, tr, pa, ta, na, wh, st, te⟩ : Go.Dol.Obj))
    case false =>
      have H1 := Lib.hid h1
      have HF : Hid (r = false) := by unfold Hid; rw [HR.out, decide_eq_true q0, h1]; try simp
      clear h1 q0
      go_enter Try.func67, Try.ntmps67
      go_wp2_with fail
      refine (refBare1_calls 1 Ad d cd Ae en ce tr Ap pa cp ta na wh st te _).mono ?_
      rintro e w1 ⟨rfl, g1⟩
      rw [H1.out]
      have hb1 := hb0.next g1
      have hB1 := hB0.below g1 hB0.lt
      obtain ⟨a0, a1, a2, a3, a4, a5, a6, a7, a8, a9⟩ := obj_cells hB1
      go_wp2_with fail
      go_ret
      exact ⟨by rw [HF.out]; rfl, hb1⟩
    case true =>
      have H1 := Lib.hid h1
      clear h1
      have HF : Hid (r = true) := by unfold Hid; rw [HR.out, decide_eq_true q0, H1.out]; try rfl
      clear q0
      go_enter Try.func67, Try.ntmps67
      go_wp2_with fail
      refine (refBare1_calls 1 Ad d cd Ae en ce tr Ap pa cp ta na wh st te _).mono ?_
      rintro e w1 ⟨rfl, g1⟩
      rw [H1.out]
      have hb1 := hb0.next g1
      have hB1 := hB0.below g1 hB0.lt
      obtain ⟨a0, a1, a2, a3, a4, a5, a6, a7, a8, a9⟩ := obj_cells hB1
      go_wp2_with fail
      go_ret
      exact ⟨by rw [HF.out]; rfl, hb1⟩
set_option maxRecDepth 100000 in
set_option maxHeartbeats 4000000 in
theorem refCheck2_calls (Ad : Option Addr) (d : List UInt8) (cd : Nat) (Ae : Option Addr) (en : List Ent) (ce : Nat) (tr : ByteArray) (Ap : Option Addr) (pa : List ByteArray) (cp : Nat) (ta na wh : ByteArray) (st : Int) (te : ByteArray) (w : World) (he : Rd w w.heap.size 3 Ae en.length (ec en)) (hp : Rd w w.heap.size 1 Ap pa.length (pc pa)) (hel : en.length ≤ 140737488355328) (hpl : pa.length ≤ 140737488355328) (hns : Hid (∀ e ∈ en, e.name.size ≤ maxLen)) :
    Calls Try.prog 67 #[.agg #[.int .i64 2, .slice Ad d.length cd, .slice Ae en.length ce, .string tr, .slice Ap pa.length cp, .string ta, .string na, .string wh, .int .i64 st, .string te]] w fun e w' => e = .returned (.int .i64 (errC (checkB geS (⟨2, d, en, tr, pa, ta, na, wh, st, te⟩ : Go.Dol.Obj)))) ∧ Below w.heap.size w w' := by
  have hb0 : Below w.heap.size w (w.alloc (.cells #[.int .i64 2, .slice Ad d.length cd, .slice Ae en.length ce, .string tr, .slice Ap pa.length cp, .string ta, .string na, .string wh, .int .i64 st, .string te] 43)) := (Below.refl _ _).alloc (Nat.le_refl _) _
  have hB0 := Blk.new w 43 (ocells 2 (.slice Ad d.length cd) (.slice Ae en.length ce) tr (.slice Ap pa.length cp) ta na wh st te)
  have he0 := he.alive hb0
  have hp0 := hp.alive hb0
  obtain ⟨r, hr⟩ : ∃ r, r = checkB geS (⟨2, d, en, tr, pa, ta, na, wh, st, te⟩ : Go.Dol.Obj) := ⟨_, rfl⟩
  rw [← hr]
  have HR : Hid (r = (entsB geS en && (noData (⟨2, d, en, tr, pa, ta, na, wh, st, te⟩ : Go.Dol.Obj) && noCommit (⟨2, d, en, tr, pa, ta, na, wh, st, te⟩ : Go.Dol.Obj) && noTag (⟨2, d, en, tr, pa, ta, na, wh, st, te⟩ : Go.Dol.Obj) && noTold (⟨2, d, en, tr, pa, ta, na, wh, st, te⟩ : Go.Dol.Obj)))) := hr
  clear hr
  cases h0 : entsB geS en
  case false =>
    have H0 := Lib.hid h0
    have HF : Hid (r = false) := by unfold Hid; rw [HR.out, h0]; try simp
    clear h0 
    go_enter Try.func67, Try.ntmps67
    go_wp2_with fail
    refine (refEntries_calls Ae en ce _ _ he0 hel hns).mono ?_
    rintro e w1 ⟨rfl, n1, rfl⟩
    rw [H0.out]
    have hb1 := hb0.drewN' n1
    have hB1 := hB0.drewN n1
    obtain ⟨a0, a1, a2, a3, a4, a5, a6, a7, a8, a9⟩ := obj_cells hB1
    go_wp2_with fail
    go_ret
    exact ⟨by rw [HF.out]; rfl, hb1⟩
  case true =>
    have H0 := Lib.hid h0
    clear h0
    cases h1 : (noData (⟨2, d, en, tr, pa, ta, na, wh, st, te⟩ : Go.Dol.Obj) && noCommit (⟨2, d, en, tr, pa, ta, na, wh, st, te⟩ : Go.Dol.Obj) && noTag (⟨2, d, en, tr, pa, ta, na, wh, st, te⟩ : Go.Dol.Obj) && noTold (⟨2, d, en, tr, pa, ta, na, wh, st, te⟩ : Go.Dol.Obj))
    case false =>
      have H1 := Lib.hid h1
      have HF : Hid (r = false) := by unfold Hid; rw [HR.out, H0.out, h1]; try simp
      clear h1 
      go_enter Try.func67, Try.ntmps67
      go_wp2_with fail
      refine (refEntries_calls Ae en ce _ _ he0 hel hns).mono ?_
      rintro e w1 ⟨rfl, n1, rfl⟩
      rw [H0.out]
      have hb1 := hb0.drewN' n1
      have hB1 := hB0.drewN n1
      obtain ⟨a0, a1, a2, a3, a4, a5, a6, a7, a8, a9⟩ := obj_cells hB1
      go_wp2_with fail
      clear a0 a1 a2 a3 a4 a5 a6 a7 a8 a9
      refine (refBare2_calls 2 Ad d cd Ae en ce tr Ap pa cp ta na wh st te _).mono ?_
      rintro e w2 ⟨rfl, g2⟩
      rw [H1.out]
      have hb2 := hb1.next g2
      have hB2 := hB1.below g2 hB1.lt
      obtain ⟨a0, a1, a2, a3, a4, a5, a6, a7, a8, a9⟩ := obj_cells hB2
      go_wp2_with fail
      go_ret
      exact ⟨by rw [HF.out]; rfl, hb2⟩
    case true =>
      have H1 := Lib.hid h1
      clear h1
      have HF : Hid (r = true) := by unfold Hid; rw [HR.out, H0.out, H1.out]; try rfl
      go_enter Try.func67, Try.ntmps67
      go_wp2_with fail
      refine (refEntries_calls Ae en ce _ _ he0 hel hns).mono ?_
      rintro e w1 ⟨rfl, n1, rfl⟩
      rw [H0.out]
      have hb1 := hb0.drewN' n1
      have hB1 := hB0.drewN n1
      obtain ⟨a0, a1, a2, a3, a4, a5, a6, a7, a8, a9⟩ := obj_cells hB1
      go_wp2_with fail
      clear a0 a1 a2 a3 a4 a5 a6 a7 a8 a9
      refine (refBare2_calls 2 Ad d cd Ae en ce tr Ap pa cp ta na wh st te _).mono ?_
      rintro e w2 ⟨rfl, g2⟩
      rw [H1.out]
      have hb2 := hb1.next g2
      have hB2 := hB1.below g2 hB1.lt
      obtain ⟨a0, a1, a2, a3, a4, a5, a6, a7, a8, a9⟩ := obj_cells hB2
      go_wp2_with fail
      go_ret
      exact ⟨by rw [HF.out]; rfl, hb2⟩
set_option maxRecDepth 100000 in
set_option maxHeartbeats 4000000 in
theorem refCheck3_calls (Ad : Option Addr) (d : List UInt8) (cd : Nat) (Ae : Option Addr) (en : List Ent) (ce : Nat) (tr : ByteArray) (Ap : Option Addr) (pa : List ByteArray) (cp : Nat) (ta na wh : ByteArray) (st : Int) (te : ByteArray) (w : World) (he : Rd w w.heap.size 3 Ae en.length (ec en)) (hp : Rd w w.heap.size 1 Ap pa.length (pc pa)) (hel : en.length ≤ 140737488355328) (hpl : pa.length ≤ 140737488355328) (hns : Hid (∀ e ∈ en, e.name.size ≤ maxLen)) :
    Calls Try.prog 67 #[.agg #[.int .i64 3, .slice Ad d.length cd, .slice Ae en.length ce, .string tr, .slice Ap pa.length cp, .string ta, .string na, .string wh, .int .i64 st, .string te]] w fun e w' => e = .returned (.int .i64 (errC (checkB geS (⟨3, d, en, tr, pa, ta, na, wh, st, te⟩ : Go.Dol.Obj)))) ∧ Below w.heap.size w w' := by
  have hb0 : Below w.heap.size w (w.alloc (.cells #[.int .i64 3, .slice Ad d.length cd, .slice Ae en.length ce, .string tr, .slice Ap pa.length cp, .string ta, .string na, .string wh, .int .i64 st, .string te] 43)) := (Below.refl _ _).alloc (Nat.le_refl _) _
  have hB0 := Blk.new w 43 (ocells 3 (.slice Ad d.length cd) (.slice Ae en.length ce) tr (.slice Ap pa.length cp) ta na wh st te)
  have he0 := he.alive hb0
  have hp0 := hp.alive hb0
  obtain ⟨r, hr⟩ : ∃ r, r = checkB geS (⟨3, d, en, tr, pa, ta, na, wh, st, te⟩ : Go.Dol.Obj) := ⟨_, rfl⟩
  rw [← hr]
  have HR : Hid (r = (decide (tr.size = 32) && parsB pa && toldB wh st te && (noData (⟨3, d, en, tr, pa, ta, na, wh, st, te⟩ : Go.Dol.Obj) && noEnts (⟨3, d, en, tr, pa, ta, na, wh, st, te⟩ : Go.Dol.Obj) && noTag (⟨3, d, en, tr, pa, ta, na, wh, st, te⟩ : Go.Dol.Obj)))) := hr
  clear hr
  by_cases q0 : tr.size = 32
  case neg =>
    have D0 : ((tr.size : Int) == 32) = false := beq_eq_false_iff_ne.2 (by omega)
    have HF : Hid (r = false) := by unfold Hid; rw [HR.out, decide_eq_false q0]; simp
    clear q0
    go_enter Try.func67, Try.ntmps67
    go_wp2_with fail
    go_ret
    exact ⟨by rw [HF.out]; rfl, hb0⟩
  case pos =>
    have D0 : ((tr.size : Int) == 32) = true := beq_iff_eq.2 (by omega)
    cases h1 : parsB pa
    case false =>
      have H1 := Lib.hid h1
      have HF : Hid (r = false) := by unfold Hid; rw [HR.out, decide_eq_true q0, h1]; try simp
      clear h1 q0
      go_enter Try.func67, Try.ntmps67
      go_wp2_with fail
      refine (refParents_calls Ap pa cp _ _ hp0 hpl).mono ?_
      rintro e w1 ⟨rfl, n1, rfl⟩
      rw [H1.out]
      have hb1 := hb0.drewN' n1
      have hB1 := hB0.drewN n1
      obtain ⟨a0, a1, a2, a3, a4, a5, a6, a7, a8, a9⟩ := obj_cells hB1
      go_wp2_with fail
      go_ret
      exact ⟨by rw [HF.out]; rfl, hb1⟩
    case true =>
      have H1 := Lib.hid h1
      clear h1
      cases h2 : toldB wh st te
      case false =>
        have H2 := Lib.hid h2
        have HF : Hid (r = false) := by unfold Hid; rw [HR.out, decide_eq_true q0, H1.out, h2]; try simp
        clear h2 q0
        go_enter Try.func67, Try.ntmps67
        go_wp2_with fail
        refine (refParents_calls Ap pa cp _ _ hp0 hpl).mono ?_
        rintro e w1 ⟨rfl, n1, rfl⟩
        rw [H1.out]
        have hb1 := hb0.drewN' n1
        have hB1 := hB0.drewN n1
        obtain ⟨a0, a1, a2, a3, a4, a5, a6, a7, a8, a9⟩ := obj_cells hB1
        go_wp2_with fail
        clear a0 a1 a2 a3 a4 a5 a6 a7 a8 a9
        refine (refTold_calls 3 Ad d cd Ae en ce tr Ap pa cp ta na wh st te _).mono ?_
        rintro e w2 ⟨rfl, g2⟩
        rw [H2.out]
        have hb2 := hb1.next g2
        have hB2 := hB1.below g2 hB1.lt
        obtain ⟨a0, a1, a2, a3, a4, a5, a6, a7, a8, a9⟩ := obj_cells hB2
        go_wp2_with fail
        go_ret
        exact ⟨by rw [HF.out]; rfl, hb2⟩
      case true =>
        have H2 := Lib.hid h2
        clear h2
        cases h3 : (noData (⟨3, d, en, tr, pa, ta, na, wh, st, te⟩ : Go.Dol.Obj) && noEnts (⟨3, d, en, tr, pa, ta, na, wh, st, te⟩ : Go.Dol.Obj) && noTag (⟨3, d, en, tr, pa, ta, na, wh, st, te⟩ : Go.Dol.Obj))
        case false =>
          have H3 := Lib.hid h3
          have HF : Hid (r = false) := by unfold Hid; rw [HR.out, decide_eq_true q0, H1.out, H2.out, h3]; try simp
          clear h3 q0
          go_enter Try.func67, Try.ntmps67
          go_wp2_with fail
          refine (refParents_calls Ap pa cp _ _ hp0 hpl).mono ?_
          rintro e w1 ⟨rfl, n1, rfl⟩
          rw [H1.out]
          have hb1 := hb0.drewN' n1
          have hB1 := hB0.drewN n1
          obtain ⟨a0, a1, a2, a3, a4, a5, a6, a7, a8, a9⟩ := obj_cells hB1
          go_wp2_with fail
          clear a0 a1 a2 a3 a4 a5 a6 a7 a8 a9
          refine (refTold_calls 3 Ad d cd Ae en ce tr Ap pa cp ta na wh st te _).mono ?_
          rintro e w2 ⟨rfl, g2⟩
          rw [H2.out]
          have hb2 := hb1.next g2
          have hB2 := hB1.below g2 hB1.lt
          obtain ⟨a0, a1, a2, a3, a4, a5, a6, a7, a8, a9⟩ := obj_cells hB2
          go_wp2_with fail
          clear a0 a1 a2 a3 a4 a5 a6 a7 a8 a9
          refine (refBare3_calls 3 Ad d cd Ae en ce tr Ap pa cp ta na wh st te _).mono ?_
          rintro e w3 ⟨rfl, g3⟩
          rw [H3.out]
          have hb3 := hb2.next g3
          have hB3 := hB2.below g3 hB2.lt
          obtain ⟨a0, a1, a2, a3, a4, a5, a6, a7, a8, a9⟩ := obj_cells hB3
          go_wp2_with fail
          go_ret
          exact ⟨by rw [HF.out]; rfl, hb3⟩
        case true =>
          have H3 := Lib.hid h3
          clear h3
          have HF : Hid (r = true) := by unfold Hid; rw [HR.out, decide_eq_true q0, H1.out, H2.out, H3.out]; try rfl
          clear q0
          go_enter Try.func67, Try.ntmps67
          go_wp2_with fail
          refine (refParents_calls Ap pa cp _ _ hp0 hpl).mono ?_
          rintro e w1 ⟨rfl, n1, rfl⟩
          rw [H1.out]
          have hb1 := hb0.drewN' n1
          have hB1 := hB0.drewN n1
          obtain ⟨a0, a1, a2, a3, a4, a5, a6, a7, a8, a9⟩ := obj_cells hB1
          go_wp2_with fail
          clear a0 a1 a2 a3 a4 a5 a6 a7 a8 a9
          refine (refTold_calls 3 Ad d cd Ae en ce tr Ap pa cp ta na wh st te _).mono ?_
          rintro e w2 ⟨rfl, g2⟩
          rw [H2.out]
          have hb2 := hb1.next g2
          have hB2 := hB1.below g2 hB1.lt
          obtain ⟨a0, a1, a2, a3, a4, a5, a6, a7, a8, a9⟩ := obj_cells hB2
          go_wp2_with fail
          clear a0 a1 a2 a3 a4 a5 a6 a7 a8 a9
          refine (refBare3_calls 3 Ad d cd Ae en ce tr Ap pa cp ta na wh st te _).mono ?_
          rintro e w3 ⟨rfl, g3⟩
          rw [H3.out]
          have hb3 := hb2.next g3
          have hB3 := hB2.below g3 hB2.lt
          obtain ⟨a0, a1, a2, a3, a4, a5, a6, a7, a8, a9⟩ := obj_cells hB3
          go_wp2_with fail
          go_ret
          exact ⟨by rw [HF.out]; rfl, hb3⟩
set_option maxRecDepth 100000 in
set_option maxHeartbeats 4000000 in
theorem refCheck4_calls (Ad : Option Addr) (d : List UInt8) (cd : Nat) (Ae : Option Addr) (en : List Ent) (ce : Nat) (tr : ByteArray) (Ap : Option Addr) (pa : List ByteArray) (cp : Nat) (ta na wh : ByteArray) (st : Int) (te : ByteArray) (w : World) (he : Rd w w.heap.size 3 Ae en.length (ec en)) (hp : Rd w w.heap.size 1 Ap pa.length (pc pa)) (hel : en.length ≤ 140737488355328) (hpl : pa.length ≤ 140737488355328) (hns : Hid (∀ e ∈ en, e.name.size ≤ maxLen)) :
    Calls Try.prog 67 #[.agg #[.int .i64 4, .slice Ad d.length cd, .slice Ae en.length ce, .string tr, .slice Ap pa.length cp, .string ta, .string na, .string wh, .int .i64 st, .string te]] w fun e w' => e = .returned (.int .i64 (errC (checkB geS (⟨4, d, en, tr, pa, ta, na, wh, st, te⟩ : Go.Dol.Obj)))) ∧ Below w.heap.size w w' := by
  have hb0 : Below w.heap.size w (w.alloc (.cells #[.int .i64 4, .slice Ad d.length cd, .slice Ae en.length ce, .string tr, .slice Ap pa.length cp, .string ta, .string na, .string wh, .int .i64 st, .string te] 43)) := (Below.refl _ _).alloc (Nat.le_refl _) _
  have hB0 := Blk.new w 43 (ocells 4 (.slice Ad d.length cd) (.slice Ae en.length ce) tr (.slice Ap pa.length cp) ta na wh st te)
  have he0 := he.alive hb0
  have hp0 := hp.alive hb0
  obtain ⟨r, hr⟩ : ∃ r, r = checkB geS (⟨4, d, en, tr, pa, ta, na, wh, st, te⟩ : Go.Dol.Obj) := ⟨_, rfl⟩
  rw [← hr]
  have HR : Hid (r = (decide (ta.size = 32) && decide (1 ≤ na.size) && decide (na.size ≤ 200) && toldB wh st te && (noData (⟨4, d, en, tr, pa, ta, na, wh, st, te⟩ : Go.Dol.Obj) && noEnts (⟨4, d, en, tr, pa, ta, na, wh, st, te⟩ : Go.Dol.Obj) && noCommit (⟨4, d, en, tr, pa, ta, na, wh, st, te⟩ : Go.Dol.Obj)))) := hr
  clear hr
  by_cases q0 : ta.size = 32
  case neg =>
    have D0 : ((ta.size : Int) == 32) = false := beq_eq_false_iff_ne.2 (by omega)
    have HF : Hid (r = false) := by unfold Hid; rw [HR.out, decide_eq_false q0]; simp
    clear q0
    go_enter Try.func67, Try.ntmps67
    go_wp2_with fail
    go_ret
    exact ⟨by rw [HF.out]; rfl, hb0⟩
  case pos =>
    have D0 : ((ta.size : Int) == 32) = true := beq_iff_eq.2 (by omega)
    by_cases q1 : 1 ≤ na.size
    case neg =>
      have D1 : decide ((na.size : Int) ≥ 1) = false := decide_eq_false (by omega)
      have D1' : decide ((1 : Int) ≤ (na.size : Int)) = false := decide_eq_false (by omega)
      have HF : Hid (r = false) := by unfold Hid; rw [HR.out, decide_eq_true q0, decide_eq_false q1]; simp
      clear q0 q1
      go_enter Try.func67, Try.ntmps67
      go_wp2_with fail
      go_ret
      exact ⟨by rw [HF.out]; rfl, hb0⟩
    case pos =>
      have D1 : decide ((na.size : Int) ≥ 1) = true := decide_eq_true (by omega)
      have D1' : decide ((1 : Int) ≤ (na.size : Int)) = true := decide_eq_true (by omega)
      by_cases q2 : na.size ≤ 200
      case neg =>
        have D2 : decide ((na.size : Int) ≤ 200) = false := decide_eq_false (by omega)
        have HF : Hid (r = false) := by unfold Hid; rw [HR.out, decide_eq_true q0, decide_eq_true q1, decide_eq_false q2]; simp
        clear q0 q1 q2
        go_enter Try.func67, Try.ntmps67
        go_wp2_with fail
        go_ret
        exact ⟨by rw [HF.out]; rfl, hb0⟩
      case pos =>
        have D2 : decide ((na.size : Int) ≤ 200) = true := decide_eq_true (by omega)
        cases h3 : toldB wh st te
        case false =>
          have H3 := Lib.hid h3
          have HF : Hid (r = false) := by unfold Hid; rw [HR.out, decide_eq_true q0, decide_eq_true q1, decide_eq_true q2, h3]; try simp
          clear h3 q0 q1 q2
          go_enter Try.func67, Try.ntmps67
          go_wp2_with fail
          refine (refTold_calls 4 Ad d cd Ae en ce tr Ap pa cp ta na wh st te _).mono ?_
          rintro e w1 ⟨rfl, g1⟩
          rw [H3.out]
          have hb1 := hb0.next g1
          have hB1 := hB0.below g1 hB0.lt
          obtain ⟨a0, a1, a2, a3, a4, a5, a6, a7, a8, a9⟩ := obj_cells hB1
          go_wp2_with fail
          go_ret
          exact ⟨by rw [HF.out]; rfl, hb1⟩
        case true =>
          have H3 := Lib.hid h3
          clear h3
          cases h4 : (noData (⟨4, d, en, tr, pa, ta, na, wh, st, te⟩ : Go.Dol.Obj) && noEnts (⟨4, d, en, tr, pa, ta, na, wh, st, te⟩ : Go.Dol.Obj) && noCommit (⟨4, d, en, tr, pa, ta, na, wh, st, te⟩ : Go.Dol.Obj))
          case false =>
            have H4 := Lib.hid h4
            have HF : Hid (r = false) := by unfold Hid; rw [HR.out, decide_eq_true q0, decide_eq_true q1, decide_eq_true q2, H3.out, h4]; try simp
            clear h4 q0 q1 q2
            go_enter Try.func67, Try.ntmps67
            go_wp2_with fail
            refine (refTold_calls 4 Ad d cd Ae en ce tr Ap pa cp ta na wh st te _).mono ?_
            rintro e w1 ⟨rfl, g1⟩
            rw [H3.out]
            have hb1 := hb0.next g1
            have hB1 := hB0.below g1 hB0.lt
            obtain ⟨a0, a1, a2, a3, a4, a5, a6, a7, a8, a9⟩ := obj_cells hB1
            go_wp2_with fail
            clear a0 a1 a2 a3 a4 a5 a6 a7 a8 a9
            refine (refBare4_calls 4 Ad d cd Ae en ce tr Ap pa cp ta na wh st te _).mono ?_
            rintro e w2 ⟨rfl, g2⟩
            rw [H4.out]
            have hb2 := hb1.next g2
            have hB2 := hB1.below g2 hB1.lt
            obtain ⟨a0, a1, a2, a3, a4, a5, a6, a7, a8, a9⟩ := obj_cells hB2
            go_wp2_with fail
            go_ret
            exact ⟨by rw [HF.out]; rfl, hb2⟩
          case true =>
            have H4 := Lib.hid h4
            clear h4
            have HF : Hid (r = true) := by unfold Hid; rw [HR.out, decide_eq_true q0, decide_eq_true q1, decide_eq_true q2, H3.out, H4.out]; try rfl
            clear q0 q1 q2
            go_enter Try.func67, Try.ntmps67
            go_wp2_with fail
            refine (refTold_calls 4 Ad d cd Ae en ce tr Ap pa cp ta na wh st te _).mono ?_
            rintro e w1 ⟨rfl, g1⟩
            rw [H3.out]
            have hb1 := hb0.next g1
            have hB1 := hB0.below g1 hB0.lt
            obtain ⟨a0, a1, a2, a3, a4, a5, a6, a7, a8, a9⟩ := obj_cells hB1
            go_wp2_with fail
            clear a0 a1 a2 a3 a4 a5 a6 a7 a8 a9
            refine (refBare4_calls 4 Ad d cd Ae en ce tr Ap pa cp ta na wh st te _).mono ?_
            rintro e w2 ⟨rfl, g2⟩
            rw [H4.out]
            have hb2 := hb1.next g2
            have hB2 := hB1.below g2 hB1.lt
            obtain ⟨a0, a1, a2, a3, a4, a5, a6, a7, a8, a9⟩ := obj_cells hB2
            go_wp2_with fail
            go_ret
            exact ⟨by rw [HF.out]; rfl, hb2⟩
set_option maxRecDepth 100000 in
set_option maxHeartbeats 4000000 in
theorem refCheck_calls (k : Int) (Ad : Option Addr) (d : List UInt8) (cd : Nat) (Ae : Option Addr) (en : List Ent) (ce : Nat) (tr : ByteArray) (Ap : Option Addr) (pa : List ByteArray) (cp : Nat) (ta na wh : ByteArray) (st : Int) (te : ByteArray) (w : World) (he : Rd w w.heap.size 3 Ae en.length (ec en)) (hp : Rd w w.heap.size 1 Ap pa.length (pc pa)) (hel : en.length ≤ 140737488355328) (hpl : pa.length ≤ 140737488355328) (hns : Hid (∀ e ∈ en, e.name.size ≤ maxLen)) :
    Calls Try.prog 67 #[.agg #[.int .i64 k, .slice Ad d.length cd, .slice Ae en.length ce, .string tr, .slice Ap pa.length cp, .string ta, .string na, .string wh, .int .i64 st, .string te]] w fun e w' => e = .returned (.int .i64 (errC (checkB geS (⟨k, d, en, tr, pa, ta, na, wh, st, te⟩ : Go.Dol.Obj)))) ∧ Below w.heap.size w w' := by
  by_cases h1 : k = 1
  · subst h1; exact refCheck1_calls Ad d cd Ae en ce tr Ap pa cp ta na wh st te w he hp hel hpl hns
  by_cases h2 : k = 2
  · subst h2; exact refCheck2_calls Ad d cd Ae en ce tr Ap pa cp ta na wh st te w he hp hel hpl hns
  by_cases h3 : k = 3
  · subst h3; exact refCheck3_calls Ad d cd Ae en ce tr Ap pa cp ta na wh st te w he hp hel hpl hns
  by_cases h4 : k = 4
  · subst h4; exact refCheck4_calls Ad d cd Ae en ce tr Ap pa cp ta na wh st te w he hp hel hpl hns
  have hb0 : Below w.heap.size w (w.alloc (.cells #[.int .i64 k, .slice Ad d.length cd, .slice Ae en.length ce, .string tr, .slice Ap pa.length cp, .string ta, .string na, .string wh, .int .i64 st, .string te] 43)) := (Below.refl _ _).alloc (Nat.le_refl _) _
  have hF : Hid (checkB geS (⟨k, d, en, tr, pa, ta, na, wh, st, te⟩ : Go.Dol.Obj) = false) := by
    unfold Hid checkB
    rw [if_neg h1, if_neg h2, if_neg h3, if_neg h4]
  have d1 : (k == 1) = false := beq_eq_false_iff_ne.2 h1
  have d2 : (k == 2) = false := beq_eq_false_iff_ne.2 h2
  have d3 : (k == 3) = false := beq_eq_false_iff_ne.2 h3
  have d4 : (k == 4) = false := beq_eq_false_iff_ne.2 h4
  clear h1 h2 h3 h4
  go_enter Try.func67, Try.ntmps67
  go_wp2_with fail
  go_ret
  exact ⟨by rw [hF.out]; rfl, hb0⟩
end Go.Proofs.Ytcefbhmmijmefaa
