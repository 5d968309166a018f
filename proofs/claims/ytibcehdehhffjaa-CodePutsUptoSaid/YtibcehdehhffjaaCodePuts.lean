/- The walk of the law CodePuts. Conditions: lengths up to 1048576. -/
import Derived.Test.YtibcehdehhffjaaCodeN
namespace Go.Proofs.Ytibcehdehhffjaa
open Go.RowKit Go.Dol
set_option linter.unusedVariables false

set_option maxRecDepth 100000 in
set_option maxHeartbeats 400000 in
theorem codePuts_walk (A : Option Addr) (l : List UInt8) (c : Nat) (n : Int) (s : ByteArray) (w : World) (hr : Rd w w.heap.size 1 A l.length (bc l)) (hc : l.length ≤ c) (hm : c ≤ maxLen) (hl : l.length ≤ 1048576)
    (hn : (Lit.int .i64 n).wf = true) (hs : s.size ≤ 1048576) :
    Calls Try.prog 3 #[.slice A l.length c, .int .i64 n, .string s] w fun e w' => e = .returned (.bool true) ∧ Below w.heap.size w w' := by
  clear hn
  go_enter Try.func3, Try.ntmps3
  go_wp2_with fail
  refine (awake_calls w).mono ?_
  rintro e w0 ⟨rfl, hb0⟩
  have s0 := hb0.size
  have hr0 := (hr.below hb0).more s0
  go_wp2_with fail
  with_reducible refine (PutNum_calls A l c n w0 hr0 (by omega)).mono ?_
  rintro e w1 ⟨l1, A1, c1, e1, rfl, h1, hb1, h2, h3⟩
  have s1 := hb1.size
  go_wp2_with fail
  with_reducible refine (RefPutNum_calls A l c n w1 ((hr0.below hb1).more s1) (by omega)).mono ?_
  rintro e w2 ⟨l2, A2, c2, e2, rfl, h4, hb2, h5, h6⟩
  have s2 := hb2.size
  go_wp2_with fail
  with_reducible refine (Same_n A1 l1 _ c1 A2 l2 _ c2 w2 _ _ ((Rd.of_own h1).below hb2) (Rd.of_own h4) (by unfold Hid at *; rw [e1, e2])).mono ?_
  rintro e w2' ⟨rfl, rfl⟩
  go_wp2_with fail
  have hr2 := ((((hr0.below hb1).more s1).below hb2).more s2)
  with_reducible refine (PutText_calls A l c s w2 hr2 (by omega)).mono ?_
  rintro e w3 ⟨l3, A3, c3, e3, rfl, h7, hb3, h8, h9⟩
  have s3 := hb3.size
  go_wp2_with fail
  with_reducible refine (RefPutText_calls A l c s w3 ((hr2.below hb3).more s3) (by omega)).mono ?_
  rintro e w4 ⟨l4, A4, c4, e4, rfl, h10, hb4, h11, h12⟩
  have s4 := hb4.size
  go_wp2_with fail
  with_reducible refine (Same_n A3 l3 _ c3 A4 l4 _ c4 w4 _ _ ((Rd.of_own h7).below hb4) (Rd.of_own h10) (by unfold Hid at *; rw [e3, e4])).mono ?_
  rintro e w4' ⟨rfl, rfl⟩
  go_wp2_with fail
  have hr4 := ((((hr2.below hb3).more s3).below hb4).more s4)
  with_reducible refine (PutInt_calls A l c n w4 hr4 (by omega)).mono ?_
  rintro e w5 ⟨l5, A5, c5, e5, rfl, h13, hb5, h14, h15⟩
  have s5 := hb5.size
  go_wp2_with fail
  with_reducible refine (RefPutInt_calls A l c n w5 ((hr4.below hb5).more s5) (by omega)).mono ?_
  rintro e w6 ⟨l6, A6, c6, e6, rfl, h16, hb6, h17, h18⟩
  go_wp2_with fail
  with_reducible refine (Same_n A5 l5 _ c5 A6 l6 _ c6 w6 _ _ ((Rd.of_own h13).below hb6) (Rd.of_own h16) (by unfold Hid at *; rw [e5, e6])).mono ?_
  rintro e w6' ⟨rfl, rfl⟩
  go_wp2_with fail
  go_ret
  exact ⟨rfl, (((((hb0.trans (hb1.mono s0)).trans (hb2.mono (by omega))).trans (hb3.mono (by omega))).trans (hb4.mono (by omega))).trans (hb5.mono (by omega))).trans (hb6.mono (by omega))⟩
end Go.Proofs.Ytibcehdehhffjaa
